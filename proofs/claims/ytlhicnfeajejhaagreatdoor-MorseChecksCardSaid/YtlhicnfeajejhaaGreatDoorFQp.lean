/- Steps towards MorseChecks. Conditions: none. -/
import Derived.Test.YtlhicnfeajejhaaGreatDoorFQo
set_option maxRecDepth 1000000
set_option maxHeartbeats 16000000
namespace Go.Cx
open Go.Proofs.YtlhicnfeajejhaaGreatDoor
def ldP (K:List Cl) (p q:Int×Int):Bool:=sgn K p.2 q.1 != 0
section
variable {K:List Cl}
theorem Good.qjc (G:Good K) {b a:Int} (h:∃ s∈zq K b,s.c=a):sgn K b a≠0:=by
 obtain⟨g,hg⟩:=Option.isSome_iff_exists.1 (q6h.2 h);unfold sgn sgL;rw[hg];obtain⟨s,hs,_,rfl⟩:=qe3 hg;obtain⟨x,hx,_,hm⟩:=q0o hs;have:=G.sg x hx s hm;show s.g≠0;omega
theorem q38:∀ (m:List (Int×Int)) (hi lo:Int->Int) (st:(Int->Int)×(Int->Int)),xk K hi lo m=some st->∀ b,st.2 b≠0->lo b≠0\/∃ p∈m,p.2=b
 | [],hi,lo,st,h,a,ha=>by rw[xk] at h;cases h;exact .inl ha
 | p :: m,hi,lo,st,h,a,ha=>by
  rw[xk] at h;split at h
  ·rcases q38 m _ _ st h a ha with h1 | ⟨q,hq,he⟩
   ·by_cases hp:a=p.2
    ·exact .inr ⟨p,by simp,hp.symm⟩
    ·rw[yz _ _ hp] at h1;exact .inl h1
   ·exact .inr ⟨q,by simp[hq],he⟩
  ·cases h
theorem qfy (G:Good K) {m:List (Int×Int)} {st:(Int->Int)×(Int->Int)} (h:xk K zz zz m=some st) {p:Int×Int} (hp:p∈m):st.2 p.2=p.1/\p.1≠0:=by
 obtain⟨h1,h2⟩:=(yl G m _ _ st h).2 p hp;have M:=q6q G m _ _ st (q6p K) h;have:=M.hl p.1 (by rw[h1];exact h2);rw[h1] at this;refine⟨this,fun e=>?_⟩;have h3:=(G.q3h (M.sg p.1 (by rw[h1];exact h2))).2.1;omega
theorem qol (G:Good K) {m:List (Int×Int)} {st:(Int->Int)×(Int->Int)} (h:xk K zz zz m=some st) (c:Int):pdB st.1 st.2 c=true↔∃ p∈m,p.1=c\/p.2=c:=by
 unfold pdB;simp only [Bool.or_eq_true,bne_iff_ne];constructor
 ·rintro (h1 | h1)
  ·rcases q0e m _ _ st h c h1 with h2 | ⟨p,hp,he⟩
   ·exact absurd rfl h2
   ·exact⟨p,hp,.inl he⟩
  ·rcases q38 m _ _ st h c h1 with h2 | ⟨p,hp,he⟩
   ·exact absurd rfl h2
   ·exact⟨p,hp,.inr he⟩
 ·rintro ⟨p,hp,rfl | rfl⟩
  ·obtain⟨h1,h2⟩:=(yl G m _ _ st h).2 p hp;exact .inl (by rw[h1];exact h2)
  ·obtain⟨h1,h2⟩:=qfy G h hp;exact .inr (by rw[h1];exact h2)
theorem q6y (G:Good K):∀ (m:List (Int×Int)) (hi lo:Int->Int) (st:(Int->Int)×(Int->Int)),xk K hi lo m=some st->(∀ p∈m,hi p.1=0)/\m.Nodup
 | [],_,_,_,_=>⟨fun p hp=>(by cases hp),List.nodup_nil⟩
 | q :: m,hi,lo,st,h=>by
  rw[xk] at h;split at h
  ·rename_i hf;obtain⟨f1,f2,f3,f4,f5⟩:=q2c.1 hf;have hq:=(G.q3h f1).2.2;obtain⟨h1,h2⟩:=q6y G m _ _ st h;have h3:∀ p∈m,p.1≠q.1:=fun p hp e=>by
    have:=h1 p hp;rw[e,q35] at this;omega
   refine⟨fun p hp=>?_,List.nodup_cons.2 ⟨fun hm=>h3 q hm rfl,h2⟩⟩;rcases gt.1 hp with rfl | hp
   ·exact f2
   ·have:=h1 p hp
    rwa [yz _ _ (h3 p hp)] at this
  ·cases h
theorem qcy (G:Good K) {m:List (Int×Int)} {st:(Int->Int)×(Int->Int)} (h:xk K zz zz m=some st):q1h (ldP K) m.length m≠[]↔∃ c,yp K st.1 c:=by
 rw[qaq (ldP K) m (q6y G m _ _ st h).2];have hk:=(yl G m _ _ st h).2;constructor
 ·rintro ⟨p,hp⟩;have key:∀ q,Relation.TransGen (fun a b=>a∈m/\b∈m/\b≠a/\ldP K a b=true) p q->Relation.TransGen (Wy K st.1) p.1 q.1:=fun q hq=>by
   have one:∀ a b:Int×Int,(a∈m/\b∈m/\b≠a/\ldP K a b=true)->Wy K st.1 a.1 b.1:=fun a b ⟨ha,hb,ak,he⟩=>by
    obtain⟨a1,a2⟩:=hk a ha;obtain⟨b1,b2⟩:=hk b hb;have he:sgn K a.2 b.1≠0:=by simpa [ldP] using he
    obtain⟨s,hs,h1,_⟩:=q45 he;refine⟨⟨s,by rw[a1];exact hs,h1⟩,fun e=>ak (Prod.ext e ?_),by rw[b1];exact b2⟩;rw[<-a1,<-b1,e]
   induction hq with
   | single h=>exact .single (one _ _ h)
   | tail _ h ih=>exact ih.tail (one _ _ h)
  exact⟨p.1,key p hp⟩
 ·rintro ⟨c,hc⟩;have key:∀ a b,Relation.TransGen (Wy K st.1) a b->st.1 a≠0->Relation.TransGen (fun a b=>a∈m/\b∈m/\b≠a/\ldP K a b=true) (a,st.1 a) (b,st.1 b)/\st.1 b≠0:=fun a b cy=>by
   have mem:∀ a,st.1 a≠0->(a,st.1 a)∈m:=fun a ha=>by
    rcases q0e m _ _ st h a ha with h2 | ⟨p,hp,he⟩
    ·exact absurd rfl h2
    ·have:=(hk p hp).1;subst he;rw[this];exact hp
   have one:∀ a b,Wy K st.1 a b->st.1 a≠0->((a,st.1 a)∈m/\(b,st.1 b)∈m/\(b,st.1 b)≠(a,st.1 a)/\ldP K (a,st.1 a) (b,st.1 b)=true):=fun a b hw ha=>by
    obtain⟨h1,h2,h3⟩:=hw;refine⟨mem a ha,mem b h3,fun e=>h2 (Prod.mk.inj e).1,?_⟩;unfold ldP;simpa using G.qjc h1
   induction cy with
   | single h1=>exact fun ha=>⟨.single (one _ _ h1 ha),h1.2.2⟩
   | tail _ h1 ih=>exact fun ha=>⟨(ih ha).1.tail (one _ _ h1 (ih ha).2),h1.2.2⟩
  exact⟨_,(key c c hc (q46 G hc)).1⟩
theorem qfz {α:Type} (E:α->α->Bool) (l:List α) (k:Nat) (hk:k < l.length) (h:leads E l k=false) (hb:∀ j < k,leads E l j=true):q1h E l.length l=q1h E (l.eraseIdx k).length (l.eraseIdx k):=by
 obtain⟨n,hn⟩ : ∃ n,l.length=n+1:=⟨l.length - 1,by omega⟩
 have hf:(List.range l.length).find? (fun k=>!leads E l k)=some k:=by
  rw[List.find?_range_eq_some];exact⟨by simp[h],gy.2 hk,fun j hj=>by simp[hb j hj]⟩
 rw[List.length_eraseIdx_of_lt hk,hn]
 conv=>lhs;unfold q1h
 rw[hf];rfl
theorem qg0 {α:Type} (E:α->α->Bool) (l:List α) (hb:∀ j < l.length,leads E l j=true):q1h E l.length l=l:=by
 cases hn:l.length with
 | zero=>rfl
 | succ n =>
  unfold q1h;have hf:(List.range l.length).find? (fun k=>!leads E l k)=none:=List.find?_eq_none.2 fun j hj=>by simp[hb j (List.mem_range.1 hj)]
  rw[hf]
theorem qg1 {α:Type} (E:α->α->Bool) (l:List α) (k:Nat) (p:α) (hk:l[k]? = some p):leads E l k=true↔∃ j q,j≠k/\l[j]? = some q/\E p q=true:=by
 unfold leads;rw[List.any_eq_true,hk];constructor
 ·rintro ⟨j,hj,he⟩;have hj:=gy.1 hj;rw[g8 hj] at he;simp only [Bool.and_eq_true,decide_eq_true_eq] at he;exact⟨j,_,he.1,g8 hj,he.2⟩
 ·rintro ⟨j,q,ak,hj,he⟩;refine⟨j,gy.2 (gc.1 hj).1,?_⟩;rw[hj];simp only [Bool.and_eq_true,decide_eq_true_eq];exact⟨ak,he⟩
end
section
variable {K M:List Cl}
end
end Go.Cx
namespace Go.Cx
def rlb (part:List Int) (b:Nat) (fE now:Int):List Int:=part.mapIdx fun m v=>if m < b/\v=now then fE else v
theorem q9k (part:List Int) (b:Nat) (fE now:Int):(rlb part b fE now).length=part.length:=by simp[rlb]
theorem q0w (part:List Int) (b:Nat) (fE now:Int) (m:Nat):(rlb part b fE now)[m]? = (part[m]?).map fun v=>if m < b/\v=now then fE else v:=by simp[rlb,List.getElem?_mapIdx]
theorem qjd (part:List Int) (fE now:Int):rlb part 0 fE now=part:=by
 refine List.ext_getElem? fun m=>?_
 rw[q0w];cases part[m]? <;> simp
theorem qje (part:List Int) (b:Nat) (fE now x:Int) (h:part[b]? = some x) (hx:x≠now):rlb part (b+1) fE now=rlb part b fE now:=by
 refine List.ext_getElem? fun m=>?_
 rw[q0w,q0w];by_cases hm:m=b
 ·subst hm;rw[h];simp[hx]
 ·cases part[m]? with
  | none=>rfl
  | some v =>
   simp only [Option.map_some];simp only [show (m < b+1/\v=now)=(m < b/\v=now) from propext (and_congr_left fun _=>by omega)]
theorem qm3 (part:List Int) (b:Nat) (fE now:Int) (h:part[b]? = some now):rlb part (b+1) fE now=(rlb part b fE now).set b fE:=by
 refine List.ext_getElem? fun m=>?_
 rw[List.getElem?_set,q0w,q0w,q9k];by_cases hm:b=m
 ·subst hm;have:=(gc.1 h).1;rw[if_pos rfl,if_pos this,h];simp
 ·rw[if_neg hm];cases part[m]? with
  | none=>rfl
  | some v =>
   simp only [Option.map_some];simp only [show (m < b+1/\v=now)=(m < b/\v=now) from propext (and_congr_left fun _=>by omega)]
theorem qom {part:List Int} {b:Nat} {fE now:Int} {i j:Nat} (hi:i < b) (hj:j < b) (h:part[i]? = part[j]?):(rlb part b fE now)[i]? = (rlb part b fE now)[j]?:=by
 rw[q0w,q0w,h];cases part[j]? with
 | none=>rfl
 | some v=>simp[hi,hj]
structure Sec (b:Nat) (o:List (Int×Nat×Int)) (E:Int->Prop) (ids aC many cL part:List Int):Prop where
 l1:aC.length=ids.length
 l2:many.length=ids.length
 l3:cL.length=ids.length
 nd:ids.Nodup
 mem:∀ p∈o,p.1∈ids/\p.2.1 < b
 ex:∀ c∈ids,(∃ p∈o,p.1=c)\/E c
 sm:∀ (k:Nat) (c:Int),ids[k]? = some c->aC[k]? = some ((occAt o c).map fun q=>q.2.2).sum/\many[k]? = some ((occAt o c).length:Int)
 fr:∀ (k:Nat) (c:Int),ids[k]? = some c->∃ q:Nat,q < b/\cL[k]? = some (q:Int)/\∀ p∈o,p.1=c->part[p.2.1]? = part[q]?
theorem Sec.start (E:Int->Prop) (part:List Int):Sec 0 [] E [] [] [] [] part :=
 ⟨rfl,rfl,rfl,.nil,fun p hp=>(by cases hp),fun c hc=>(by cases hc),fun k c h=>(by simp at h),fun k c h=>(by simp at h)⟩
theorem Sec.up {b:Nat} {o:List (Int×Nat×Int)} {E:Int->Prop} {ids aC many cL part:List Int} (h:Sec b o E ids aC many cL part) (x:Int):Sec (b+1) o E ids aC many cL (part.set b x) where
 l1:=h.l1
 l2:=h.l2
 l3:=h.l3
 nd:=h.nd
 mem p hp:=⟨(h.mem p hp).1,by have:=(h.mem p hp).2;omega⟩
 ex:=h.ex
 sm:=h.sm
 fr k c hk:=by
  obtain⟨q,hq,h1,h2⟩:=h.fr k c hk;refine⟨q,by omega,h1,fun p hp e=>?_⟩;have:=(h.mem p hp).2;rw[List.getElem?_set_ne (by omega),List.getElem?_set_ne (by omega)];exact h2 p hp e
theorem qjf {b:Nat} {o:List (Int×Nat×Int)} {E:Int->Prop} {ids aC many cL part:List Int} (h:Sec b o E ids aC many cL part) {c:Int} (hc:c ∉ ids):occAt o c=[] :=
 List.filter_eq_nil_iff.2 fun p hp e=>hc (by rw[<-eq_of_beq e];exact(h.mem p hp).1)
theorem Sec.new {i:Nat} {o:List (Int×Nat×Int)} {ids aC many cL part:List Int} (h:Sec (i+1) o (fun _=>False) ids aC many cL part) {c:Int} (hc:c ∉ ids) :
  Sec (i+1) o (fun d=>d=c) (ids++[c]) (aC++[0]) (many++[0]) (cL++[(i:Int)]) part where
 l1:=by simp[h.l1]
 l2:=by simp[h.l2]
 l3:=by simp[h.l3]
 nd:=List.nodup_append.2 ⟨h.nd,by simp,fun a ha b hb e=>hc (by simp at hb;rw[<-hb,<-e];exact ha)⟩
 mem p hp:=⟨List.mem_append_left _ (h.mem p hp).1,(h.mem p hp).2⟩
 ex d hd:=by
  rcases gF.1 hd with hd | hd
  ·exact .inl ((h.ex d hd).resolve_right id)
  ·simp at hd;exact .inr hd
 sm k d hk:=by
  rcases gL k ids.length with hl | hl
  ·rw[br hl] at hk;rw[br (by rw[h.l1];exact hl),br (by rw[h.l2];exact hl)];exact h.sm k d hk
  ·have dG:=(gc.1 hk).1;have bJ:k=ids.length:=by simp at dG;omega
   subst bJ;rw[gO hl,Nat.sub_self] at hk;have hd:c=d:=by simpa using hk
   subst hd;rw[qjf h hc,gO (by rw[h.l1];exact nlr _),gO (by rw[h.l2];exact nlr _),h.l1,h.l2,Nat.sub_self];exact⟨rfl,rfl⟩
 fr k d hk:=by
  rcases gL k ids.length with hl | hl
  ·rw[br hl] at hk;rw[br (by rw[h.l3];exact hl)];exact h.fr k d hk
  ·have dG:=(gc.1 hk).1;have bJ:k=ids.length:=by simp at dG;omega
   subst bJ;rw[gO hl,Nat.sub_self] at hk;have hd:c=d:=by simpa using hk
   subst hd;rw[gO (by rw[h.l3];exact nlr _),h.l3,Nat.sub_self];exact⟨i,by omega,rfl,fun p hp e=>absurd (e ▸ (h.mem p hp).1) hc⟩
theorem Sec.put {i:Nat} {o:List (Int×Nat×Int)} {E:Int->Prop} {ids aC many cL part:List Int} (h:Sec (i+1) o E ids aC many cL part) {k:Nat} {c g s m:Int} {q:Nat} {fE now:Int} (hE:∀ d,E d->d=c) (hk:ids[k]? = some c) (hs:aC[k]? = some s) (hm:many[k]? = some m)
  (hq:cL[k]? = some (q:Int)) (ho:part[q]? = some fE) (hn:part[i]? = some now) :
  Sec (i+1) (o++[(c,i,g)]) (fun _=>False) ids (aC.set k (s+g)) (many.set k (m+1)) cL (rlb part (i+1) fE now) where
 l1:=by simp[h.l1]
 l2:=by simp[h.l2]
 l3:=h.l3
 nd:=h.nd
 mem p hp:=by
  rcases gF.1 hp with hp | hp
  ·exact h.mem p hp
  ·simp at hp;subst hp;exact⟨gd hk,by show i < i+1;omega⟩
 ex d hd:=.inl (by
  rcases h.ex d hd with ⟨p,hp,e⟩ | e
  ·exact⟨p,List.mem_append_left _ hp,e⟩
  ·exact⟨(c,i,g),List.mem_append_right _ (by simp),(hE d e).symm⟩)
 sm j d hj:=by
  obtain⟨h1,h2⟩:=h.sm j d hj;rw[q3g];show (aC.set k (s+g))[j]? = some (List.map (fun q=>q.snd.snd) (if d=c then occAt o d++[(c,i,g)] else occAt o d)).sum/\(many.set k (m+1))[j]? = some ((if d=c then occAt o d++[(c,i,g)] else occAt o d).length:Int);by_cases kT:k=j
  ·subst kT;rw[hk] at hj;have hd:c=d:=by simpa using hj
   subst hd;rw[hs] at h1;rw[hm] at h2;rw[if_pos rfl,List.getElem?_set_self (gc.1 hs).1,List.getElem?_set_self (gc.1 hm).1];refine⟨?_,?_⟩
   ·rw[bo,List.sum_append,<-osi h1];simp
   ·rw[gl,osi h2];simp
  ·have EM:¬ d=c:=fun e=>kT (by
    subst e;obtain⟨k1,e1⟩:=gc.1 hk;obtain⟨k2,e2⟩:=gc.1 hj;exact(List.getElem_inj h.nd).1 (e1.trans e2.symm))
   rw[if_neg EM,List.getElem?_set_ne kT,List.getElem?_set_ne kT];exact⟨h1,h2⟩
 fr j d hj:=by
  obtain⟨r,hr,h1,h2⟩:=h.fr j d hj;refine⟨r,hr,h1,fun p hp e=>?_⟩;rcases gF.1 hp with hp | hp
  ·exact qom (h.mem p hp).2 hr (h2 p hp e)
  ·simp at hp;subst hp;have e:c=d:=e;subst e;have kT:k=j:=by
    obtain⟨k1,e1⟩:=gc.1 hk;obtain⟨k2,e2⟩:=gc.1 hj;exact(List.getElem_inj h.nd).1 (e1.trans e2.symm)
   subst kT;rw[hq] at h1;have Uv:q=r:=by have:=osi h1;omega
   subst Uv;show (rlb part (i+1) fE now)[i]? = _;rw[q0w,q0w,hn,ho];have hi:i < i+1:=by omega
   by_cases rB:fE=now
   ·simp[rB]
   ·simp[hi,rB]
theorem Sec.done {b:Nat} {T:Int->Option Cl} {x:Cl} {ids aC many cL part:List Int} (h:Sec b (occ T x) (fun _=>False) ids aC many cL part) (ha:xv T x=0) :
  (∀ s∈aC,s=0)/\(∀ m∈many,m=2)/\∀ i < x.s.length,part[i]? = part[0]?:=by
 unfold xv at ha;split at ha
 ·cases ha
 rename_i h1;split at ha
 ·cases ha
 rename_i h2;split at ha
 case isFalse=>cases ha
 rename_i h3;refine⟨fun s hs=>?_,fun m hm=>?_,fun i hi=>?_⟩
 ·obtain⟨k,hk⟩:=gY hs;obtain⟨c,hc⟩ : ∃ c,ids[k]? = some c:=⟨_,g8 (by rw[<-h.l1];exact(gc.1 hk).1)⟩
  obtain⟨p,hp,rfl⟩:=(h.ex c (gd hc)).resolve_right id;have:=(h.sm k _ hc).1;rw[hk] at this;rw[osi this];exact gR fun e=>h1 ⟨p,hp,e⟩
 ·obtain⟨k,hk⟩:=gY hm;obtain⟨c,hc⟩ : ∃ c,ids[k]? = some c:=⟨_,g8 (by rw[<-h.l2];exact(gc.1 hk).1)⟩
  obtain⟨p,hp,rfl⟩:=(h.ex c (gd hc)).resolve_right id;have:=(h.sm k _ hc).2;rw[hk] at this;rw[osi this,gR fun e=>h2 ⟨p,hp,e⟩];rfl
 ·have key:∀ i,Relation.TransGen (adj (occ T x)) 0 i->part[i]? = part[0]?:=fun i hi=>by
   have one:∀ i j,adj (occ T x) i j->part[j]? = part[i]?:=fun i j ⟨c,g,k,h4,h5⟩=>by
    obtain⟨n,hn⟩:=gY (h.mem _ h4).1;obtain⟨q,_,_,h6⟩:=h.fr n c hn;rw[h6 _ h4 rfl,h6 _ h5 rfl]
   induction hi with
   | single h=>exact one _ _ h
   | tail _ h ih=>exact(one _ _ h).trans ih
  rcases h3 i hi with rfl | h4
  ·rfl
  ·exact key i h4
def fo (T:Int->Option Cl) (x:Cl) (i:Nat):List (Int×Nat×Int):=match x.s[i]? with
 | none=>[]
 | some s=>match T s.c with
  | none=>[]
  | some y=>y.s.map fun r=>(r.c,i,s.g*r.g)
def oP (T:Int->Option Cl) (x:Cl) (i j:Nat):List (Int×Nat×Int):=(List.range i).flatMap (fo T x)++(fo T x i).take j
theorem qon (T:Int->Option Cl) (x:Cl):oP T x x.s.length 0=occ T x:=by
 unfold oP;rw[List.take_zero,gQ];rfl
variable {T:Int->Option Cl} {x:Cl} {i j:Nat}
theorem qjg {s:Sd} {y:Cl} (hs:x.s[i]? = some s) (hy:T s.c=some y):fo T x i=y.s.map fun r=>(r.c,i,s.g*r.g):=by
 unfold fo;rw[hs]
 dsimp only
 rw[hy]
theorem qm4 {s:Sd} {y:Cl} {r:Sd} (hs:x.s[i]? = some s) (hy:T s.c=some y) (hr:y.s[j]? = some r):oP T x i (j+1)=oP T x i j++[(r.c,i,s.g*r.g)]:=by
 unfold oP;rw[qjg hs hy,gq,List.getElem?_map,hr,gz];rfl
theorem qm5 {s:Sd} {y:Cl} (hs:x.s[i]? = some s) (hy:T s.c=some y):oP T x i y.s.length=oP T x (i+1) 0:=by
 unfold oP;rw[List.take_zero,gQ,bp,List.flatMap_append,qjg hs hy,ge (by simp)];simp[qjg hs hy]
theorem qm6:oP T x 0 0=[]:=by simp[oP]
theorem qg2 (o:List (Int×Nat×Int)) (h:∀ p∈o,p.2.2=1\/p.2.2 = -1) (c:Int) : -(o.length:Int)<=((occAt o c).map fun q=>q.2.2).sum/\((occAt o c).map fun q=>q.2.2).sum<=o.length/\(occAt o c).length<=o.length:=by
 induction o with
 | nil=>simp[occAt]
 | cons a o ih =>
  have h1:=ih fun p hp=>h p (gX _ hp)
  have h2:=h a gP;unfold occAt at h1 ⊢;rw[List.filter_cons,gD];split
  ·rw[gN,bh,gD];omega
  ·omega
theorem qoo (hx:x.s.length<=64) (hT:∀ c y,T c=some y->y.s.length<=64) (hi:i<=x.s.length) (hj:j<=64):(oP T x i j).length<=4160:=by
 have key:∀ i,((List.range i).flatMap (fo T x)).length<=i*64:=fun i=>by
  induction i with
  | zero=>simp
  | succ i ih =>
   rw[bp,List.flatMap_append,gl];have:((([i] : List Nat).flatMap (fo T x))).length<=64:=by
    simp only [List.flatMap_cons,List.flatMap_nil,List.append_nil];unfold fo;cases x.s[i]? with
    | none=>simp
    | some s =>
     dsimp only
     cases hy:T s.c with
     | none=>simp
     | some y=>simpa using hT _ y hy
   omega
 have h1:=key i;unfold oP;rw[gl,gh];omega
theorem qpq (hx:∀ s∈x.s,s.g=1\/s.g = -1) (hT:∀ c y,T c=some y->∀ s∈y.s,s.g=1\/s.g = -1):∀ p∈oP T x i j,p.2.2=1\/p.2.2 = -1:=fun p hp=>by
 have key:∀ k,∀ p∈fo T x k,p.2.2=1\/p.2.2 = -1:=fun k p hp=>by
  unfold fo at hp;cases hs:x.s[k]? with
  | none=>rw[hs] at hp;cases hp
  | some s =>
   rw[hs] at hp
   dsimp only at hp
   cases hy:T s.c with
   | none=>rw[hy] at hp;cases hp
   | some y =>
    rw[hy] at hp;obtain⟨r,hr,rfl⟩:=go.1 hp;have h1:=hx s (gd hs);have h2:=hT _ y hy r hr;show s.g*r.g=1\/s.g*r.g = -1;rcases h1 with h1 | h1 <;> rcases h2 with h2 | h2 <;> rw[h1,h2] <;> simp
 unfold oP at hp;rcases gF.1 hp with hp | hp
 ·obtain⟨k,_,hk⟩:=List.mem_flatMap.1 hp;exact key k p hk
 ·exact key i p (gU hp)
theorem Sec.mono {b:Nat} {o:List (Int×Nat×Int)} {E F:Int->Prop} {ids aC many cL part:List Int} (h:Sec b o E ids aC many cL part) (hE:∀ c,E c->F c):Sec b o F ids aC many cL part :=
 ⟨h.l1,h.l2,h.l3,h.nd,h.mem,fun c hc=>(h.ex c hc).imp_right (hE c),h.sm,h.fr⟩
end Go.Cx
namespace Go.Cx
open Go.RowKit
def Apr (u v:Value):Prop:=∀ b,u.ownBlock=some b->v.ownBlock≠some b
theorem Apr.symm {u v:Value} (h:Apr u v):Apr v u:=fun b hb e=>h b e hb
structure FR (w:World) (base:Nat) (t:TypeId) (R:List (Value×List Int)):Prop where
 row:∀ p∈R,w.ownsRow base t 1 p.1 p.2.length (ints p.2)
 dst:R.Pairwise fun p q=>Apr p.1 q.1
theorem FR.q8 {w w':World} {base:Nat} {t:TypeId} {R:List (Value×List Int)} (h:FR w base t R) (hb:Below w.heap.size w w'):FR w' base t R:=⟨fun p hp=>qa (h.row p hp) hb,h.dst⟩
theorem FR.at {w:World} {base:Nat} {t:TypeId} {R:List (Value×List Int)} (h:FR w base t R) {i:Nat} {v:Value} {L:List Int} (hi:R[i]? = some (v,L)):w.ownsRow base t 1 v L.length (ints L):=h.row (v,L) (gd hi)
theorem qjh {α:Type} {r:α->α->Prop} (hs:∀ a b,r a b->r b a) {l:List α} (h:l.Pairwise r) {i:Nat} {x:α} (hx:∀ j y,j≠i->l[j]? = some y->r x y):(l.set i x).Pairwise r:=by
 rw[gG] at h ⊢;intro a b ha hb cy;rw[List.length_set] at ha hb;rw[List.getElem_set,List.getElem_set];by_cases h1:i=a
 ·have h2:¬ i=b:=by omega
  rw[if_pos h1,if_neg h2];exact hx b _ (by omega) (g8 hb)
 ·rw[if_neg h1];by_cases h2:i=b
  ·rw[if_pos h2];exact hs _ _ (hx a _ (by omega) (g8 ha))
  ·rw[if_neg h2];exact h a b ha hb cy
theorem FR.apart {w:World} {base:Nat} {t:TypeId} {R:List (Value×List Int)} (h:FR w base t R) {i j:Nat} {p q:Value×List Int} (dS:i≠j) (hi:R[i]? = some p) (hj:R[j]? = some q):Apr p.1 q.1:=by
 obtain⟨hi1,rfl⟩:=gc.1 hi;obtain⟨Bi,rfl⟩:=gc.1 hj;have hp:=gG.1 h.dst;rcases Nat.lt_or_gt_of_ne dS with h1 | h1
 ·exact hp i j hi1 Bi h1
 ·exact(hp j i Bi hi1 h1).symm
theorem FR.app {w w1:World} {base:Nat} {t:TypeId} {R:List (Value×List Int)} (h:FR w base t R) {i:Nat} {v:Value} {L:List Int} (hi:R[i]? = some (v,L)) {g n c:Nat} {M:List Int}
  (hr:w1.ownsRow base t 1 (.slice (some ⟨g,0,none⟩) n c) M.length (ints M)) (hg:w.grownBy w1 v.ownBlock) (hl:v.ownBlock=some g\/g=w.heap.size):FR w1 base t (R.set i (.slice (some ⟨g,0,none⟩) n c,M)) where
 row p hp:=by
  obtain⟨j,hj⟩:=gY hp;rw[List.getElem?_set] at hj;by_cases dS:i=j
  ·rw[if_pos dS] at hj;split at hj
   ·cases hj;exact hr
   ·cases hj
  ·rw[if_neg dS] at hj;refine(h.row p (gd hj)).kept hg ?_;cases ho:p.1.ownBlock with
   | none=>exact .inl rfl
   | some b=>exact .inr fun e=>h.apart (Ne.symm dS) hj hi b ho e.symm
 dst:=qjh (fun _ _ h=>h.symm) h.dst fun j y hj hy b hb e=>by
  have hb:g=b:=by injection hb
  subst hb;rcases hl with hl | hl
  ·exact h.apart (Ne.symm hj) hi hy g hl e
  ·have:=((h.row y (gd hy)).lt g e).2;omega
theorem FR.cons {w:World} {base:Nat} {t:TypeId} {R:List (Value×List Int)} (h:FR w base t R) {v:Value} {L:List Int} (hr:w.ownsRow base t 1 v L.length (ints L)) (hd:∀ b,v.ownBlock=some b->∀ p∈R,p.1.ownBlock≠some b):FR w base t ((v,L) :: R) :=
 ⟨fun p hp=>(gt.1 hp).elim (fun e=>e ▸ hr) (h.row p),gx.2 ⟨fun q hq b hb=>hd b hb q hq,h.dst⟩⟩
theorem FR.nil (w:World) (base:Nat) (t:TypeId):FR w base t []:=⟨fun p hp=>(by cases hp),.nil⟩
theorem qji {w:World} {base st n:Nat} {e:TypeId} {v:Value} {xs:List Value} (h:w.ownsRow base e st v n xs) {a:Addr} (ak:∀ b,v.ownBlock=some b->b≠a.block) (u:Value):(w.setCell a u).ownsRow base e st v n xs:=by
 obtain⟨h1,h2⟩:=h;refine⟨h1,?_⟩;rcases h2 with h2 | ⟨g,cap,cur,rfl,hg,hh,r⟩
 ·exact Or.inl h2
 ·exact Or.inr ⟨g,cap,cur,rfl,hg,by rw[Below.heap_setCell _ _ _ _ (ak g rfl)];exact hh,r⟩
theorem FR.put {w:World} {base:Nat} {t:TypeId} {R:List (Value×List Int)} (h:FR w base t R) {i:Nat} {g c n:Nat} {L:List Int} (hi:R[i]? = some (.slice (some ⟨g,0,none⟩) n c,L)) (hn:n=L.length) (j:Nat) (x:Int):FR (w.setCell ⟨g,j,none⟩ (.int .i64 x)) base t (R.set i (.slice (some ⟨g,0,none⟩) n c,L.set j x)) where
 row p hp:=by
  obtain⟨k,hk⟩:=gY hp;rw[List.getElem?_set] at hk;by_cases dS:i=k
  ·rw[if_pos dS] at hk;split at hk
   ·cases hk
    subst hn;have:=((h.at hi).stored j (.int .i64 x)).1;show World.ownsRow _ _ _ _ _ (L.set j x).length (ints (L.set j x));rw[List.length_set,show ints (L.set j x)=(ints L).set j (.int .i64 x) by simp[ints,List.map_set]];exact this
   ·cases hk
  ·rw[if_neg dS] at hk;exact qji (h.row p (gd hk)) (fun b hb e=>h.apart (Ne.symm dS) hk hi b hb (by rw[e];rfl)) _
 dst:=qjh (fun _ _ h=>h.symm) h.dst fun k y hk hy b hb e=>h.apart (Ne.symm hk) hi hy b hb e
def AV (R:List (Value×List Int)) (y:Nat):Prop:=∀ p∈R,p.1.ownBlock≠some y
theorem AV.set {R:List (Value×List Int)} {y:Nat} (h:AV R y) (i:Nat) {p:Value×List Int} (hp:p.1.ownBlock≠some y):AV (R.set i p) y:=fun q hq=>(List.mem_or_eq_of_mem_set hq).elim (h q) fun e=>e ▸ hp
theorem q0p {P:Program} {ops:Array Oper} {rest:List Oper} {o:Oper} {a:Act} {Q:Exit->Act->World->Prop} {W wr:World} (ot:o.guard=none) (s x:Operand) (t:TypeId)
  (ho:o.op = .call { callee:=.builtin .append,args:=#[s,x],argTypes:=#[t,t] })
  (base:Nat) (e:TypeId) {z:Value} {size bytes:Nat} (dV:(P.info? e).map (fun i=>(i.zero,i.size,i.bytes))=some (some z,size,bytes)) (ht:P.underlying t=some (.slice e))
  (fF:z.cells.size=size) (ao:0 < size) (oL:0 < bytes)
  (v:Value) (n:Nat) (xs:List Value) (hs:a.eval s=v) (ah:wr.ownsRow base e size v n xs)
  (vs:List Value) (hx:a.eval x = .slice (some ⟨wr.heap.size,0,none⟩) 1 1) (hl:vs.length=size) (h1:∀ u∈vs,u.oneCell'=true)
  (cE:(n+1)*bytes<=140737488355328) (hb:Below base W wr) (af:base<=wr.heap.size)
  (h:∀ g cap w',w'.ownsRow base e size (.slice (some ⟨g,0,none⟩) (n+1) cap) (n+1) (xs++vs)->(wr.alloc (.cells vs.toArray e)).grownBy w' v.ownBlock->(v.ownBlock=some g\/g=(wr.alloc (.cells vs.toArray e)).heap.size)->Below base W w'->wpList P ops Q rest (a.put o.dst (.slice (some ⟨g,0,none⟩) (n+1) cap)) w') :
  wpList P ops Q (o :: rest) a (wr.alloc (.cells vs.toArray e)):=by
 obtain⟨i0,hi,bL,bT,cp⟩:=info_parts dV;refine wpList_append_lies _ ot s x t ho base e i0 z size bytes ht hi bL bT cp fF ao v n xs hs (ah.alloc _) ⟨wr.heap.size,0,none⟩ 1 1 vs hx (by omega) ?_ h1 (by decide) ?_ cE (by simp;omega) _ rfl ?_
 ·intro j u hj;rw[Addr.add_lit,Nat.zero_add,qd];simpa using hj
 ·have:(n+1)*1<=(n+1)*bytes:=Nat.mul_le_mul_left _ oL;unfold maxLen;omega
 ·intro g cap w' h2 h3 h4 _;exact h g cap w' h2 h3 h4 ((hb.alloc af _).grown h3 (by simp;omega) (fun k hk=>(ah.lt k hk).1))
end Go.Cx
