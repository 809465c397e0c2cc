/- Steps towards MorseChecks. Conditions: none. -/
import Derived.Test.YtlhicnfeajejhaaGreatDoorFOw
set_option maxRecDepth 1000000
set_option maxHeartbeats 16000000
namespace Go.Proofs.YtlhicnfeajejhaaGreatDoor
section
variable {α:Type}
def qi9 (E:α->α->Prop) (S:List α):Prop:=S≠[]/\∀ p∈S,∃ q∈S,E p q
theorem q1g (E:α->α->Prop):∀ (n:Nat) (S:List α),S.length<=n->qi9 E S->∃ p∈S,Relation.TransGen E p p
 | 0,S,hl,h=>absurd (List.length_eq_zero_iff.1 (by omega)) h.1
 | n+1,S,hl,h=>by
  classical
  obtain⟨p,hp⟩:=List.exists_mem_of_ne_nil S h.1;by_cases hc:Relation.TransGen E p p
  ·exact⟨p,hp,hc⟩
  ·have hlt:(S.filter fun q=>decide (Relation.TransGen E p q)).length < S.length:=by
    refine Nat.lt_of_le_of_ne (bg _ _) fun e=>?_
    exact hc (of_decide_eq_true (List.length_filter_eq_length_iff.1 e p hp))
   obtain⟨q,hq,zP⟩:=h.2 p hp;obtain⟨r,hr,Ah⟩:=q1g E n (S.filter fun q=>decide (Relation.TransGen E p q)) (by omega)
    ⟨List.ne_nil_of_mem (gH.2 ⟨hq,decide_eq_true (Relation.TransGen.single zP)⟩),fun a ha=>by
     have ha:=gH.1 ha;obtain⟨b,hb,cy⟩:=h.2 a ha.1;exact⟨b,gH.2 ⟨hb,decide_eq_true ((of_decide_eq_true ha.2).tail cy)⟩,cy⟩⟩
   exact⟨r,(gH.1 hr).1,Ah⟩
theorem q6d {E:α->α->Prop} {a b:α} (h:Relation.TransGen E a b):∃ c,E a c/\(c=b\/Relation.TransGen E c b):=by
 induction h with
 | single h=>exact⟨_,h,.inl rfl⟩
 | tail h1 h2 ih =>
  obtain⟨c,hc,ES⟩:=ih;refine⟨c,hc,.inr ?_⟩;rcases ES with rfl | ES
  ·exact .single h2
  ·exact ES.tail h2
theorem q90 (E:α->α->Prop) (m:List α) (hE:∀ p q,E p q->q∈m) {p:α} (h:Relation.TransGen E p p):∃ S,qi9 E S/\∀ q∈S,q∈m:=by
 classical
 have mR:∀ {a b},Relation.TransGen E a b->b∈m:=fun h=>by
  cases h with
  | single h=>exact hE _ _ h
  | tail _ h=>exact hE _ _ h
 refine⟨m.filter fun q=>decide (Relation.TransGen E p q/\Relation.TransGen E q p),⟨List.ne_nil_of_mem (gH.2 ⟨mR h,decide_eq_true ⟨h,h⟩⟩),fun a ha=>?_⟩,fun q hq=>(gH.1 hq).1⟩;obtain⟨h1,h2⟩:=of_decide_eq_true (gH.1 ha).2;obtain⟨c,hc,Ca⟩:=q6d h2;refine⟨c,gH.2 ⟨hE _ _ hc,decide_eq_true ⟨h1.tail hc,?_⟩⟩,hc⟩;rcases Ca with rfl | Ca
 ·exact h
 ·exact Ca
def leads (E:α->α->Bool) (l:List α) (k:Nat):Bool:=(List.range l.length).any fun j=>decide (j≠k) && (match l[k]?,l[j]? with | some p,some q=>E p q | _,_=>false)
def q1h (E:α->α->Bool):Nat->List α->List α
 | 0,l=>l
 | n+1,l=>match (List.range l.length).find? fun k=>!leads E l k with
  | some k=>q1h E n (l.eraseIdx k)
  | none=>l
theorem qcc {R R':α->α->Prop} {x:α} (hR:∀ a b,a≠x->b≠x->R' a b->R a b) {a b:α} (h:Relation.TransGen R' a b) :
  Relation.TransGen R a b\/((a=x\/Relation.TransGen R' a x)/\(x=b\/Relation.TransGen R' x b)):=by
 classical
 induction h with
 | @single c h =>
  by_cases ha:a=x
  ·exact .inr ⟨.inl ha,.inr (ha ▸ .single h)⟩
  by_cases hc:c=x
  ·exact .inr ⟨.inr (hc ▸ .single h),.inl hc.symm⟩
  exact .inl (.single (hR _ _ ha hc h))
 | @tail c d h1 h2 ih =>
  rcases ih with ih | ⟨h3,h4⟩
  ·by_cases hc:c=x
   ·exact .inr ⟨.inr (hc ▸ h1),.inr (hc ▸ .single h2)⟩
   by_cases hd:d=x
   ·exact .inr ⟨.inr (hd ▸ h1.tail h2),.inl hd.symm⟩
   exact .inl (ih.tail (hR _ _ hc hd h2))
  ·refine .inr ⟨h3,.inr ?_⟩;rcases h4 with rfl | h4
   ·exact .single h2
   ·exact h4.tail h2
theorem q6e {R R':α->α->Prop} {x:α} (hR:∀ a b,a≠x->b≠x->R' a b->R a b) (dA:∀ a,¬ Relation.TransGen R a a) {a:α} (h:Relation.TransGen R' a a):Relation.TransGen R' x x:=by
 rcases qcc hR h with h | ⟨h1,h2⟩
 ·exact absurd h (dA a)
 ·rcases h1 with rfl | h1
  ·exact h
  ·rcases h2 with rfl | h2
   ·exact h
   ·exact h2.trans h1
theorem q6f (E:α->α->Bool) (S:List α):∀ (n:Nat) (l:List α),l.Nodup->(S≠[]/\∀ p∈S,∃ q∈S,q≠p/\E p q=true)->(∀ p∈S,p∈l)->q1h E n l≠[]
 | 0,l,_,h,hs=>by
  obtain⟨p,hp⟩:=List.exists_mem_of_ne_nil S h.1;exact List.ne_nil_of_mem (hs p hp)
 | n+1,l,hd,h,hs=>by
  unfold q1h;split
  ·rename_i k hk;have h1:=List.find?_some hk;have aR:k < l.length:=gy.1 (gT hk);refine q6f E S n _ (hd.sublist (List.eraseIdx_sublist _ _)) h fun p hp=>?_
   obtain⟨i,hi,rfl⟩:=List.getElem_of_mem (hs p hp);have nC:i≠k:=by
    rintro rfl;obtain⟨q,hq,IQ,he⟩:=h.2 _ hp;obtain⟨j,hj,rfl⟩:=List.getElem_of_mem (hs q hq);have:leads E l i=true:=by
     unfold leads;refine List.any_eq_true.2 ⟨j,gy.2 hj,?_⟩;rw[g8 hi,g8 hj];simp only [Bool.and_eq_true,decide_eq_true_eq];exact⟨fun e=>IQ (by subst e;rfl),he⟩
    rw[this] at h1;cases h1
   rw[List.mem_eraseIdx_iff_getElem?];exact⟨i,nC,g8 hi⟩
  ·obtain⟨p,hp⟩:=List.exists_mem_of_ne_nil S h.1;exact List.ne_nil_of_mem (hs p hp)
theorem q6g (E:α->α->Bool):∀ (n:Nat) (l:List α) p,p∈q1h E n l->p∈l
 | 0,_,_,h=>h
 | n+1,l,p,h=>by
  unfold q1h at h;split at h
  ·exact List.mem_of_mem_eraseIdx (q6g E n _ p h)
  ·exact h
theorem q7u (E:α->α->Bool):∀ (n:Nat) (l:List α),l.length<=n->l.Nodup->∀ p∈q1h E n l,∃ q∈q1h E n l,q≠p/\E p q=true
 | 0,l,hl,_,p,hp=>by
  rw[List.length_eq_zero_iff.1 (Nat.le_zero.1 hl)] at hp;cases hp
 | n+1,l,hl,hd,p,hp=>by
  unfold q1h at hp ⊢;split at hp
  ·rename_i k hk;have aR:k < l.length:=gy.1 (gT hk);exact q7u E n _ (by rw[List.length_eraseIdx_of_lt aR];omega) (hd.sublist (List.eraseIdx_sublist _ _)) p hp
  ·rename_i hk;obtain⟨i,hi,rfl⟩:=List.getElem_of_mem hp;have h1:=List.find?_eq_none.1 hk i (gy.2 hi);simp only [Bool.not_eq_true,Bool.not_eq_false'] at h1;obtain⟨j,hj,h2⟩:=List.any_eq_true.1 h1;have hj:=gy.1 hj;rw[g8 hi,g8 hj] at h2;simp only [Bool.and_eq_true,decide_eq_true_eq] at h2;refine⟨l[j],List.getElem_mem _,fun e=>h2.1 ?_,h2.2⟩;have hp:=gG.1 hd;rcases Nat.lt_trichotomy i j with h | h | h
   ·exact absurd e.symm (hp i j hi hj h)
   ·exact h.symm
   ·exact absurd e (hp j i hj hi h)
theorem qaq (E:α->α->Bool) (l:List α) (hd:l.Nodup):q1h E l.length l≠[]↔∃ p,Relation.TransGen (fun a b=>a∈l/\b∈l/\b≠a/\E a b=true) p p:=by
 constructor
 ·intro h;obtain⟨p,_,hp⟩:=q1g (fun a b=>a∈l/\b∈l/\b≠a/\E a b=true) _ _ (nlr _) ⟨h,fun p hp=>by
   obtain⟨q,hq,IQ,he⟩:=q7u E _ l (nlr _) hd p hp;exact⟨q,hq,q6g _ _ _ _ hp,q6g _ _ _ _ hq,IQ,he⟩⟩
  exact⟨p,hp⟩
 ·rintro ⟨p,hp⟩;obtain⟨S,hS,hm⟩:=q90 _ l (fun _ _ h=>h.2.1) hp;exact q6f E S _ l hd ⟨hS.1,fun p hp=>by
   obtain⟨q,hq,h⟩:=hS.2 p hp;exact⟨q,hq,h.2.2.1,h.2.2.2⟩⟩ hm
end
end Go.Proofs.YtlhicnfeajejhaaGreatDoor
namespace Go.Cx
def cAt (K:List Cl) (c:Int):Option Cl:=(cellsOf K).find? fun x=>x.id == c
def xq (T:Int->Option Cl) (x:Cl) (i:Nat):Bool :=
 match x.s[i]? with
 | none=>false
 | some s=>(match T s.c with
  | none=>true
  | some y=>y.dim != x.dim - 1) || (decide (0 < i) && (match x.s[i - 1]? with
  | some r=>r.c == s.c
  | none=>false))
def xx (T:Int->Option Cl) (x:Cl):Int :=
 if x.dim < 0\/8 < x.dim then 21
 else if (x.dim=0/\0 < x.s.length)\/(x.dim=1/\x.s.length≠2)\/(1 < x.dim/\(x.s.length < 2\/64 < x.s.length)) then 22
 else if (List.range x.s.length).any (xq T x)=true then 22
 else if x.s.any (fun s=>s.g != 1 && s.g != -1)=true then 23
 else if x.dim=1/\(x.s.map Sd.g).sum≠0 then 23
 else 0
def occ (T:Int->Option Cl) (x:Cl):List (Int×Nat×Int) :=
 (List.range x.s.length).flatMap fun i=>match x.s[i]? with
  | none=>[]
  | some s=>match T s.c with
   | none=>[]
   | some y=>y.s.map fun r=>(r.c,i,s.g*r.g)
def occAt (o:List (Int×Nat×Int)) (c:Int):List (Int×Nat×Int):=o.filter fun p=>p.1 == c
def adj (o:List (Int×Nat×Int)) (i j:Nat):Prop:=∃ c g h,(c,i,g)∈o/\(c,j,h)∈o
open Classical in
noncomputable def xv (T:Int->Option Cl) (x:Cl):Int :=
 if ∃ p∈occ T x,((occAt (occ T x) p.1).map fun q=>q.2.2).sum≠0 then 24
 else if ∃ p∈occ T x,(occAt (occ T x) p.1).length≠2 then 25
 else if ∀ i < x.s.length,i=0\/Relation.TransGen (adj (occ T x)) 0 i then 0
 else 25
def q0a (T:Int->Option Cl):Int->List Cl->Option (Int×Int)
 | _,[]=>none
 | last,x :: l=>if x.id<=last then some (x.id,20) else if xx T x≠0 then some (x.id,xx T x) else q0a T x.id l
noncomputable def k9 (T:Int->Option Cl):List Cl->Option (Int×Int)
 | []=>none
 | x :: l=>if 1 < x.dim/\xv T x≠0 then some (x.id,xv T x) else k9 T l
noncomputable def chk (K:List Cl):Int×Int :=
 if 4000 < K.length then (0,2)
 else match q0a (cAt K) 0 (canon K) with
  | some e=>e
  | none=>(k9 (cAt K) (canon K)).getD (0,0)
theorem sum_cons (a:Int) (l:List Int):(a :: l).sum=a+l.sum:=bh
theorem qfi (l:List Sd) (h:∀ s∈l,s.g=1\/s.g = -1) : -(l.length:Int)<=(l.map Sd.g).sum/\(l.map Sd.g).sum<=l.length:=by
 induction l with
 | nil=>simp
 | cons a l ih =>
  have h1:=ih fun s hs=>h s (gX _ hs)
  have h2:=h a gP;rw[gN,sum_cons,gD];omega
theorem ql1 {x:Cl} {a b:Sd} (hs:x.s=[a,b]) (ha:a.g=1\/a.g = -1) (hb:b.g=1\/b.g = -1):(x.s.map Sd.g).sum≠0↔a.g=b.g:=by
 rw[hs];simp only [List.map_cons,List.map_nil,List.sum_cons,List.sum_nil];omega
theorem q1i {T:Int->Option Cl} {l:List Cl} : ∀ {last:Int} {e:Int×Int},q0a T last l=some e->e.2≠0:=by
 induction l with
 | nil=>intro last e h;cases h
 | cons x l ih =>
  intro last e h;unfold q0a at h;split at h
  ·cases h;exact by show (20:Int)≠0;decide
  ·split at h
   ·rename_i h1;cases h;exact h1
   ·exact ih h
theorem q4f {T:Int->Option Cl} {l:List Cl} : ∀ {last:Int},q0a T last l=none->(∀ x∈l,last < x.id/\xx T x=0)/\l.Pairwise fun x y=>x.id < y.id:=by
 induction l with
 | nil=>intro last _;exact⟨fun x hx=>(gM hx).elim,.nil⟩
 | cons x l ih =>
  intro last h;unfold q0a at h;split at h
  ·cases h
  ·rename_i h0;split at h
   ·cases h
   ·rename_i h1;obtain⟨h2,h3⟩:=ih h;refine⟨fun y hy=>?_,.cons (fun y hy=>(h2 y hy).1) h3⟩;rcases gt.1 hy with rfl | hy
    ·exact⟨by omega,Classical.not_not.1 h1⟩
    ·exact⟨by have:=(h2 y hy).1;omega,(h2 y hy).2⟩
theorem ql2 {T:Int->Option Cl} {l:List Cl} : ∀ {last:Int},(∀ x∈l,last < x.id/\xx T x=0)->(l.Pairwise fun x y=>x.id < y.id)->q0a T last l=none:=by
 induction l with
 | nil=>intro last _ _;rfl
 | cons x l ih =>
  intro last h hp;have h1:=h x gP;unfold q0a;rw[if_neg (by omega),if_neg (by rw[h1.2];simp)];have hp:=gx.1 hp;exact ih (fun y hy=>⟨hp.1 y hy,(h y (gX _ hy)).2⟩) hp.2
def ka (R:Int->Int->Prop) (z:Int) (S S':Int->Prop):Prop:=(∀ b,S b->S' b)/\∀ b,S' b->¬ S b->b≠z/\∀ c,R b c->S' c
theorem ka.refl (R:Int->Int->Prop) (z:Int) (S:Int->Prop):ka R z S S:=⟨fun _ h=>h,fun _ h hn=>absurd h hn⟩
theorem ka.visit {R:Int->Int->Prop} {z n:Int} {S0 S S1 S2:Int->Prop} (h:ka R z S0 S) (h1:∀ b,S1 b↔b=n\/S b) (hz:n≠z) (h2:ka R z S1 S2) (hn:∀ c,R n c->S2 c):ka R z S0 S2:=by
 refine⟨fun b hb=>h2.1 b ((h1 b).2 (.inr (h.1 b hb))),fun b hb ca=>?_⟩;by_cases ai:S1 b
 ·rcases (h1 b).1 ai with rfl | Sf
  ·exact⟨hz,hn⟩
  ·obtain⟨h3,h4⟩:=h.2 b Sf ca;exact⟨h3,fun c hc=>h2.1 c ((h1 c).2 (.inr (h4 c hc)))⟩
 ·exact h2.2 b hb ai
theorem ka.none {R:Int->Int->Prop} {z:Int} {S0 S:Int->Prop} (h0:∀ b,¬ S0 b) (h:ka R z S0 S) (hz:∀ c,R z c->S c):¬ Relation.TransGen R z z:=by
 intro ht;have aH:∀ c,Relation.TransGen R z c->S c:=fun c hc=>by
  induction hc with
  | single h1=>exact hz _ h1
  | tail _ h1 ih=>exact(h.2 _ ih (h0 _)).2 _ h1
 exact(h.2 z (aH z ht) (h0 z)).1 rfl
theorem ka.reach {R:Int->Int->Prop} {z:Int} {S0 S:Int->Prop} (h0:∀ b,¬ S0 b) (h:ka R z S0 S) {a:Int} (ha:S a) {c:Int} (hc:Relation.TransGen R a c):S c:=by
 induction hc with
 | single h1=>exact(h.2 _ ha (h0 _)).2 _ h1
 | tail _ h1 ih=>exact(h.2 _ ih (h0 _)).2 _ h1
end Go.Cx
namespace Go.Cx
open Go.Proofs.YtlhicnfeajejhaaGreatDoor
theorem qfj (l:List Sd) (x:Sd):(yv l x).Perm (x :: l):=by
 induction l with
 | nil=>exact List.Perm.refl _
 | cons y l ih =>
  unfold yv;split
  ·exact(ih.cons y).trans (List.Perm.swap x y l)
  ·exact List.Perm.refl _
theorem q2r (l:List Sd):(zx l).Perm l:=by
 have key:∀ (l a:List Sd),(l.foldl yv a).Perm (a++l):=fun l=>by
  induction l with
  | nil=>intro a;simp
  | cons x l ih =>
   intro a;rw[List.foldl_cons];exact(ih _).trans (((qfj a x).append_right l).trans List.perm_middle.symm)
 simpa [zx] using key l []
theorem qia {l:List Sd} (h:Srt Sd.c l) (x:Sd):Srt Sd.c (yv l x):=by
 induction l with
 | nil=>exact Srt.one x
 | cons y l ih =>
  obtain⟨h1,h2⟩:=gx.1 h;unfold yv;split
  ·rename_i Ad;refine gx.2 ⟨fun z hz=>?_,ih h2⟩;rcases qad hz with rfl | hz
   ·exact Ad
   ·exact h1 z hz
  ·rename_i Ad;refine gx.2 ⟨fun z hz=>?_,h⟩;rcases gt.1 hz with rfl | hz
   ·omega
   ·have:=h1 z hz;omega
theorem qib (l:List Sd):Srt Sd.c (zx l):=by
 have key:∀ (l a:List Sd),Srt Sd.c a->Srt Sd.c (l.foldl yv a):=fun l=>by
  induction l with
  | nil=>intro a h;exact h
  | cons x l ih=>intro a h;exact ih _ (qia h x)
 exact key l [] Srt.nil
theorem q1j {K:List Cl} (h:Asc K) (hs:∀ x∈K,Srt Sd.c x.s):canon K=K:=by
 unfold canon;rw[qh8 (h.imp fun {x y} hxy=>by omega)]
 conv=>rhs;rw[<-List.map_id K]
 refine List.map_congr_left fun x hx=>?_
 show (⟨x.id,x.dim,stb Sd.c x.s⟩ : Cl)=x;rw[qh8 (hs x hx)]
theorem qar {K:List Cl} (h:Asc K) {x:Cl} (hx:x∈K):K.find? (fun y=>y.id == x.id)=some x:=by
 cases hf:K.find? (fun y=>y.id == x.id) with
 | none=>have:=List.find?_eq_none.1 hf x hx;simp at this
 | some y =>
  have h1:=List.find?_some hf;rw[q6c h (gT hf) hx (by simpa using h1)]
structure Smp (A:List (List Int)):Prop where
 srt:q0v A
 sub:∀ u∈A,∀ v,List.Sublist v u->v≠[]->v∈A
 len:∀ u∈A,u.length<=4
 ne:∀ u∈A,u≠[]
 pw:∀ u∈A,u.Pairwise (· < ·)
def cid (A:List (List Int)) (v:List Int):Int:=((plc A v:Nat):Int)+1
variable {A:List (List Int)}
theorem Smp.inj (h:Smp A) {u v:List Int} (hu:u∈A) (hv:v∈A) (e:cid A u=cid A v):u=v:=by
 have h1:=(q5e h.srt hu).2;have h2:=(q5e h.srt hv).2;unfold cid at e;rw[show plc A u=plc A v by omega,h2] at h1;exact h1.symm
theorem yh (A:List (List Int)) (n:Nat):canon (xf A n)=xf A n :=
 q1j (q09 A n) fun x hx=>by
  obtain⟨i,_,rfl⟩:=go.1 hx;exact qib _
theorem q3e (A:List (List Int)) (n:Nat):cellsOf (xf A n)=xf A n:=by
 unfold cellsOf;rw[yh,q08 (q09 A n)]
theorem Smp.cell (h:Smp A) {v:List Int} (hv:v∈A):xy A (plc A v) v∈xf A A.length:=by
 obtain⟨h1,h2⟩:=q5e h.srt hv;refine go.2 ⟨plc A v,gy.2 h1,?_⟩;show xy A (plc A v) (A.getD (plc A v) [])=_;rw[h2]
theorem Smp.get (h:Smp A) {v:List Int} (hv:v∈A):cAt (xf A A.length) (cid A v)=some (xy A (plc A v) v):=by
 unfold cAt;rw[q3e];exact qar (q09 A A.length) (h.cell hv)
theorem Smp.of (h:Smp A) {x:Cl} (hx:x∈xf A A.length):∃ u∈A,x=xy A (plc A u) u:=by
 obtain⟨i,hi,rfl⟩:=go.1 hx;have hi:=gy.1 hi;have hm:A.getD i []∈A:=by
  rw[gI,g8 hi];exact List.getElem_mem _
 refine⟨_,hm,?_⟩;exact q6c (q09 A A.length) hx (h.cell hm) (by
  have h1:=q5e h.srt hm;show (i:Int)+1=((plc A (A.getD i []):Nat):Int)+1;have h2:∀ j,j < A.length->A.getD j []=A.getD i []->j=i:=fun j hj he=>by
   rcases Nat.lt_trichotomy j i with hl | hl | hl
   ·have:=h.srt.at hl hi;rw[he,q12] at this;cases this
   ·exact hl
   ·have:=h.srt.at hl hj;rw[he,q12] at this;cases this
  rw[h2 _ h1.1 h1.2])
theorem ql3 (A:List (List Int)) (i:Nat) (u:List Int):(xy A i u).s.length=if 1 < u.length then u.length else 0:=by
 show (zx _).length=_;rw[q23];simp[z7]
theorem Smp.side (h:Smp A) {u:List Int} (hu:u∈A) {s:Sd} (hs:s∈z7 A u (if 1 < u.length then u.length else 0)):1 < u.length/\∃ v∈A,s.c=cid A v/\v.length+1=u.length/\(s.g=1\/s.g = -1):=by
 obtain⟨k,hk,rfl⟩:=go.1 hs;have hk:=gy.1 hk;split at hk
 ·rename_i h1;have hl:(u.take k++u.drop (k+1)).length+1=u.length:=by simp;omega
  refine⟨h1,u.take k++u.drop (k+1),h.sub u hu _ ?_ ?_,rfl,hl,?_⟩
  ·conv=>rhs;rw[<-gr k u]
   refine List.Sublist.append (List.Sublist.refl _) ?_;rw[<-List.drop_drop];exact List.drop_sublist _ _
  ·intro e;rw[e] at hl;simp at hl;omega
  ·show 1 - 2*((k % 2:Nat):Int)=1\/1 - 2*((k % 2:Nat):Int) = -1;omega
 ·omega
theorem qnn (l:List Sd):(l.map Sd.g).sum=ev (fun _=>1) l:=by
 induction l with
 | nil=>rfl
 | cons s l ih=>rw[gN,bh,ih];show _=1*s.g+_;omega
def qcd (T:Int->Option Cl) (l:List Sd):List (Int×Int):=l.flatMap fun s=>match T s.c with
 | none=>[]
 | some y=>y.s.map fun r=>(r.c,s.g*r.g)
theorem qce {α β:Type} (l:List α) (f:α->List β) (n:Nat):((List.range n).flatMap fun i=>match l[i]? with | none=>[] | some s=>f s)=(l.take n).flatMap f:=by
 induction n with
 | zero=>simp
 | succ n ih =>
  rw[bp,List.flatMap_append,ih,gq,List.flatMap_append]
  congr 1
  cases h:l[n]? <;> simp[h]
theorem qe1 (T:Int->Option Cl) (x:Cl):(occ T x).map (fun p=>(p.1,p.2.2))=qcd T x.s:=by
 have h1:=qce x.s (fun s=>match T s.c with | none=>[] | some y=>y.s.map fun r=>(r.c,s.g*r.g)) x.s.length;rw[List.take_length] at h1;unfold qcd;rw[<-h1];unfold occ;rw[List.map_flatMap]
 congr 1
 funext i
 cases x.s[i]? with
 | none=>rfl
 | some s =>
  show List.map _ (match T s.c with | none=>[] | some y=>y.s.map fun r=>(r.c,i,s.g*r.g))=match T s.c with | none=>[] | some y=>y.s.map fun r=>(r.c,s.g*r.g)
  cases T s.c with
  | none=>rfl
  | some y=>show (y.s.map _).map _=_;rw[List.map_map];rfl
theorem q7v (T:Int->Option Cl) (x:Cl) (c:Int):(occAt (occ T x) c).map (fun p=>(p.1,p.2.2))=(qcd T x.s).filter fun p=>p.1 == c:=by
 rw[<-qe1,List.filter_map];rfl
theorem qfk (T:Int->Option Cl) (x:Cl) (c:Int):(occAt (occ T x) c).length=((qcd T x.s).filter fun p=>p.1 == c).length:=by
 rw[<-q7v,gm]
theorem qfl (T:Int->Option Cl) (x:Cl) (c:Int):((occAt (occ T x) c).map fun q=>q.2.2)=((qcd T x.s).filter fun p=>p.1 == c).map Prod.snd:=by
 rw[<-q7v,List.map_map];rfl
theorem qfm {α β:Type} (f:α->List β) {l m:List α} (h:l.Perm m):(l.flatMap f).Perm (m.flatMap f):=by
 induction h with
 | nil=>exact List.Perm.refl _
 | cons x _ ih=>rw[List.flatMap_cons,List.flatMap_cons];exact ih.append_left _
 | swap x y l =>
  simp only [List.flatMap_cons];rw[<-gz,<-gz];exact List.perm_append_comm.append_right _
 | trans _ _ wY pf=>exact wY.trans pf
theorem qcf {α β:Type} {f g:α->List β} (l:List α) (h:∀ x∈l,(f x).Perm (g x)):(l.flatMap f).Perm (l.flatMap g):=by
 induction l with
 | nil=>exact List.Perm.refl _
 | cons x l ih =>
  rw[List.flatMap_cons,List.flatMap_cons];exact(h x (by simp)).append (ih fun y hy=>h y (by simp[hy]))
theorem qic {l m:List Int} (h:l.Perm m):l.sum=m.sum:=by
 induction h with
 | nil=>rfl
 | cons x _ ih=>rw[bh,bh,ih]
 | swap x y l=>simp only [List.sum_cons];omega
 | trans _ _ wY pf=>exact wY.trans pf
def q91 (A:List (List Int)) (u:List Int):List (Int×Int):=(List.range u.length).flatMap fun k=>(List.range (u.length - 1)).map fun j=>(cid A ((u.take k++u.drop (k+1)).take j++(u.take k++u.drop (k+1)).drop (j+1)),(1 - 2*((k % 2:Nat):Int))*(1 - 2*((j % 2:Nat):Int)))
theorem Smp.q91 (h:Smp A) {u:List Int} (hu:u∈A) (hn:2 < u.length) (i:Nat):(qcd (cAt (xf A A.length)) (xy A i u).s).Perm (Cx.q91 A u):=by
 have h0:(xy A i u).s.Perm (z7 A u u.length):=by
  show (zx (z7 A u (if 1 < u.length then u.length else 0))).Perm _;rw[if_pos (by omega)];exact q2r _
 refine(qfm _ h0).trans ?_;unfold z7 Cx.q91;rw[List.flatMap_map];refine qcf _ fun k hk=>?_
 have hk:=gy.1 hk;have hv:u.take k++u.drop (k+1)∈A/\(u.take k++u.drop (k+1)).length=u.length - 1:=by
  have hs:(⟨cid A (u.take k++u.drop (k+1)),1 - 2*((k % 2:Nat):Int)⟩ : Sd)∈z7 A u (if 1 < u.length then u.length else 0):=by
   rw[if_pos (by omega)];exact go.2 ⟨k,gy.2 hk,rfl⟩
  refine⟨h.sub u hu _ ?_ ?_,?_⟩
  ·conv=>rhs;rw[<-gr k u]
   refine List.Sublist.append (List.Sublist.refl _) ?_;rw[<-List.drop_drop];exact List.drop_sublist _ _
  ·intro e;have:=congrArg List.length e;rw[gl,gh,gC] at this;simp only [List.length_nil] at this;omega
  ·simp;omega
 generalize u.take k++u.drop (k+1)=v at hv;show (match cAt (xf A A.length) (cid A v) with | none=>[] | some y=>y.s.map fun r:Sd=>(r.c,(1 - 2*((k % 2:Nat):Int))*r.g)).Perm _;rw[h.get hv.1];show ((zx (z7 A v (if 1 < v.length then v.length else 0))).map _).Perm _;rw[if_pos (by omega),hv.2];refine((q2r _).map _).trans ?_;unfold z7;rw[List.map_map];exact List.Perm.refl _
theorem qno {p q r s t u:Int} (h:[p,q,r,s,t,u].Nodup):∀ z∈[(p,(1:Int)),(q,-1),(r,1),(p,-1),(s,1),(t,-1),(q,1),(s,-1),(u,1),(r,-1),(t,1),(u,-1)],
  ((([(p,(1:Int)),(q,-1),(r,1),(p,-1),(s,1),(t,-1),(q,1),(s,-1),(u,1),(r,-1),(t,1),(u,-1)] : List (Int×Int)).filter fun x=>x.1 == z.1).map Prod.snd).sum=0/\(([(p,(1:Int)),(q,-1),(r,1),(p,-1),(s,1),(t,-1),(q,1),(s,-1),(u,1),(r,-1),(t,1),(u,-1)] : List (Int×Int)).filter fun x=>x.1 == z.1).length=2:=by
 simp only [List.nodup_cons,List.mem_cons,List.not_mem_nil,or_false,not_or,not_false_eq_true,List.nodup_nil,and_true] at h;obtain⟨⟨h1,h2,h3,h4,h5⟩,⟨h6,h7,h8,h9⟩,⟨IF,MS,EL⟩,⟨MT,MU⟩,MV⟩:=h;intro z hz;simp only [List.mem_cons,List.not_mem_nil,or_false] at hz;rcases hz with rfl | rfl | rfl | rfl | rfl | rfl | rfl | rfl | rfl | rfl | rfl | rfl <;>
  simp[h1,h2,h3,h4,h5,h6,h7,h8,h9,IF,MS,EL,MT,MU,MV,Ne.symm h1,Ne.symm h2,Ne.symm h3,Ne.symm h4,Ne.symm h5,Ne.symm h6,Ne.symm h7,Ne.symm h8,Ne.symm h9,Ne.symm IF,Ne.symm MS,Ne.symm EL,Ne.symm MT,Ne.symm MU,Ne.symm MV]
theorem qnp {p q r:Int} (h:[p,q,r].Nodup):∀ z∈[(p,(1:Int)),(q,-1),(p,-1),(r,1),(q,1),(r,-1)],
  ((([(p,(1:Int)),(q,-1),(p,-1),(r,1),(q,1),(r,-1)] : List (Int×Int)).filter fun x=>x.1 == z.1).map Prod.snd).sum=0/\(([(p,(1:Int)),(q,-1),(p,-1),(r,1),(q,1),(r,-1)] : List (Int×Int)).filter fun x=>x.1 == z.1).length=2:=by
 simp only [List.nodup_cons,List.mem_cons,List.not_mem_nil,or_false,not_or,not_false_eq_true,List.nodup_nil,and_true] at h;obtain⟨⟨h1,h2⟩,h3⟩:=h;intro z hz;simp only [List.mem_cons,List.not_mem_nil,or_false] at hz;rcases hz with rfl | rfl | rfl | rfl | rfl | rfl <;>
  simp[h1,h2,h3,Ne.symm h1,Ne.symm h2,Ne.symm h3]
theorem Smp.qnq (h:Smp A) {u:List Int} (hu:u∈A) (hn:2 < u.length):∀ z∈Cx.q91 A u,(((Cx.q91 A u).filter fun x=>x.1 == z.1).map Prod.snd).sum=0/\((Cx.q91 A u).filter fun x=>x.1 == z.1).length=2:=by
 have hl:=h.len u hu;have hp:=h.pw u hu;have hm:=h.sub u hu;have hd:∀ v w:List Int,v∈A->w∈A->v≠w->cid A v≠cid A w:=fun v w hv hw ak e=>ak (h.inj hv hw e)
 match u,hl,hn with
 | [a,b,c],_,_ =>
  simp only [List.pairwise_cons,List.mem_cons,List.not_mem_nil,or_false,forall_eq_or_imp,forall_eq] at hp;obtain⟨⟨ab,ac⟩,bc,_⟩:=hp;have m1:=hm [a] (by simp) (by simp);have m2:=hm [b] (by simp) (by simp);have m3:=hm [c] (by simp) (by simp);have mY:[cid A [c],cid A [b],cid A [a]].Nodup:=by
   simp only [List.nodup_cons,List.mem_cons,List.not_mem_nil,or_false,not_or,not_false_eq_true,List.nodup_nil,and_true];exact⟨⟨hd _ _ m3 m2 (by simp;omega),hd _ _ m3 m1 (by simp;omega)⟩,hd _ _ m2 m1 (by simp;omega)⟩
  have:=qnp mY;simpa [Cx.q91,List.range_succ] using this
 | [a,b,c,d],_,_ =>
  simp only [List.pairwise_cons,List.mem_cons,List.not_mem_nil,or_false,forall_eq_or_imp,forall_eq] at hp;obtain⟨⟨ab,ac,ad⟩,⟨bc,bd⟩,cd,_⟩:=hp;have m1:=hm [c,d] (by simp) (by simp);have m2:=hm [b,d] (by simp) (by simp);have m3:=hm [b,c] (by simp) (by simp);have m4:=hm [a,d] (by simp) (by simp);have m5:=hm [a,c] (by simp) (by simp);have m6:=hm [a,b] (by simp) (by simp);have mY:[cid A [c,d],cid A [b,d],cid A [b,c],cid A [a,d],cid A [a,c],cid A [a,b]].Nodup:=by
   simp only [List.nodup_cons,List.mem_cons,List.not_mem_nil,or_false,not_or,not_false_eq_true,List.nodup_nil,and_true];exact⟨⟨hd _ _ m1 m2 (by simp;omega),hd _ _ m1 m3 (by simp;omega),hd _ _ m1 m4 (by simp;omega),hd _ _ m1 m5 (by simp;omega),hd _ _ m1 m6 (by simp;omega)⟩,
    ⟨hd _ _ m2 m3 (by simp;omega),hd _ _ m2 m4 (by simp;omega),hd _ _ m2 m5 (by simp;omega),hd _ _ m2 m6 (by simp;omega)⟩,
    ⟨hd _ _ m3 m4 (by simp;omega),hd _ _ m3 m5 (by simp;omega),hd _ _ m3 m6 (by simp;omega)⟩,
    ⟨hd _ _ m4 m5 (by simp;omega),hd _ _ m4 m6 (by simp;omega)⟩,hd _ _ m5 m6 (by simp;omega)⟩
  have:=qno mY;simpa [Cx.q91,List.range_succ] using this
 | [],_,hn=>simp at hn
 | [_],_,hn=>simp at hn
 | [_,_],_,hn=>simp at hn
 | _ :: _ :: _ :: _ :: _ :: _,hl,_=>simp at hl
theorem Smp.share (h:Smp A) {u:List Int} (hu:u∈A) (hn:2 < u.length) (k j:Nat) (hk:k < u.length) (hj:j < u.length) :
  ∃ v,∃ k' j',k' < u.length - 1/\j' < u.length - 1/\(u.take k++u.drop (k+1)).take k'++(u.take k++u.drop (k+1)).drop (k'+1)=v/\(u.take j++u.drop (j+1)).take j'++(u.take j++u.drop (j+1)).drop (j'+1)=v:=by
 have hl:=h.len u hu
 match u,hl,hn with
 | [a,b,c],_,_ =>
  simp only [List.length_cons,List.length_nil] at hk hj;have h1:k=0\/k=1\/k=2:=by omega
  have h2:j=0\/j=1\/j=2:=by omega
  rcases h1 with rfl | rfl | rfl <;> rcases h2 with rfl | rfl | rfl
  ·exact⟨[b],1,1,by simp,by simp,rfl,rfl⟩
  ·exact⟨[c],0,0,by simp,by simp,rfl,rfl⟩
  ·exact⟨[b],1,0,by simp,by simp,rfl,rfl⟩
  ·exact⟨[c],0,0,by simp,by simp,rfl,rfl⟩
  ·exact⟨[c],0,0,by simp,by simp,rfl,rfl⟩
  ·exact⟨[a],1,1,by simp,by simp,rfl,rfl⟩
  ·exact⟨[b],0,1,by simp,by simp,rfl,rfl⟩
  ·exact⟨[a],1,1,by simp,by simp,rfl,rfl⟩
  ·exact⟨[a],1,1,by simp,by simp,rfl,rfl⟩
 | [a,b,c,d],_,_ =>
  simp only [List.length_cons,List.length_nil] at hk hj;have h1:k=0\/k=1\/k=2\/k=3:=by omega
  have h2:j=0\/j=1\/j=2\/j=3:=by omega
  rcases h1 with rfl | rfl | rfl | rfl <;> rcases h2 with rfl | rfl | rfl | rfl
  ·exact⟨[c,d],0,0,by simp,by simp,rfl,rfl⟩
  ·exact⟨[c,d],0,0,by simp,by simp,rfl,rfl⟩
  ·exact⟨[b,d],1,0,by simp,by simp,rfl,rfl⟩
  ·exact⟨[b,c],2,0,by simp,by simp,rfl,rfl⟩
  ·exact⟨[c,d],0,0,by simp,by simp,rfl,rfl⟩
  ·exact⟨[c,d],0,0,by simp,by simp,rfl,rfl⟩
  ·exact⟨[a,d],1,1,by simp,by simp,rfl,rfl⟩
  ·exact⟨[a,c],2,1,by simp,by simp,rfl,rfl⟩
  ·exact⟨[b,d],0,1,by simp,by simp,rfl,rfl⟩
  ·exact⟨[a,d],1,1,by simp,by simp,rfl,rfl⟩
  ·exact⟨[b,d],0,0,by simp,by simp,rfl,rfl⟩
  ·exact⟨[a,b],2,2,by simp,by simp,rfl,rfl⟩
  ·exact⟨[b,c],0,2,by simp,by simp,rfl,rfl⟩
  ·exact⟨[a,c],1,2,by simp,by simp,rfl,rfl⟩
  ·exact⟨[a,b],2,2,by simp,by simp,rfl,rfl⟩
  ·exact⟨[b,c],0,0,by simp,by simp,rfl,rfl⟩
 | [],_,hn=>simp at hn
 | [_],_,hn=>simp at hn
 | [_,_],_,hn=>simp at hn
 | _ :: _ :: _ :: _ :: _ :: _,hl,_=>simp at hl
theorem qe2 {T:Int->Option Cl} {x:Cl} {i:Nat} {s:Sd} {y:Cl} {r:Sd} (hi:x.s[i]? = some s) (hy:T s.c=some y) (hr:r∈y.s):(r.c,i,s.g*r.g)∈occ T x:=by
 unfold occ;refine List.mem_flatMap.2 ⟨i,gy.2 (gc.1 hi).1,?_⟩;rw[hi];show _∈(match T s.c with | none=>[] | some y=>y.s.map fun r:Sd=>(r.c,i,s.g*r.g));rw[hy];exact gE (f:=fun r:Sd=>(r.c,i,s.g*r.g)) hr
theorem Smp.adj (h:Smp A) {u:List Int} (hu:u∈A) (hn:2 < u.length) (q i j:Nat) (hi:i < (xy A q u).s.length) (hj:j < (xy A q u).s.length):adj (occ (cAt (xf A A.length)) (xy A q u)) i j:=by
 have hg:∀ i,i < (xy A q u).s.length->∃ k,k < u.length/\(xy A q u).s[i]? = some ⟨cid A (u.take k++u.drop (k+1)),1 - 2*((k % 2:Nat):Int)⟩:=fun i hi=>by
  have h1:(xy A q u).s[i]∈z7 A u (if 1 < u.length then u.length else 0):=q66 (List.getElem_mem hi);rw[if_pos (by omega)] at h1;obtain⟨k,hk,he⟩:=go.1 h1;exact⟨k,gy.1 hk,by rw[g8 hi,<-he];rfl⟩
 obtain⟨k,hk,ek⟩:=hg i hi;obtain⟨k2,dG,Sg⟩:=hg j hj;obtain⟨v,a,b,ha,hb,e1,e2⟩:=h.share hu hn k k2 hk dG;have uz:∀ k,k < u.length->∀ a,a < u.length - 1->∃ y,cAt (xf A A.length) (cid A (u.take k++u.drop (k+1)))=some y/\∃ r∈y.s,r.c=cid A ((u.take k++u.drop (k+1)).take a++(u.take k++u.drop (k+1)).drop (a+1)):=fun k hk a ha=>by
  have hv:u.take k++u.drop (k+1)∈A/\(u.take k++u.drop (k+1)).length=u.length - 1:=by
   refine⟨h.sub u hu _ ?_ ?_,?_⟩
   ·conv=>rhs;rw[<-gr k u]
    refine List.Sublist.append (List.Sublist.refl _) ?_;rw[<-List.drop_drop];exact List.drop_sublist _ _
   ·intro e;have:=congrArg List.length e;rw[gl,gh,gC] at this;simp only [List.length_nil] at this;omega
   ·simp;omega
  generalize u.take k++u.drop (k+1)=v at hv;refine⟨_,h.get hv.1,⟨cid A (v.take a++v.drop (a+1)),1 - 2*((a % 2:Nat):Int)⟩,(q2r _).mem_iff.2 ?_,rfl⟩;rw[if_pos (by omega)];exact go.2 ⟨a,gy.2 (by omega),rfl⟩
 obtain⟨y1,t1,r1,m1,c1⟩:=uz k hk a ha;obtain⟨y2,t2,r2,m2,c2⟩:=uz k2 dG b hb;have o1:=qe2 ek t1 m1;have o2:=qe2 Sg t2 m2;rw[c1,e1] at o1;rw[c2,e2] at o2;exact⟨_,_,_,o1,o2⟩
theorem Smp.xv (h:Smp A) {u:List Int} (hu:u∈A) (hn:2 < u.length) (q:Nat):xv (cAt (xf A A.length)) (xy A q u)=0:=by
 have hp:=h.q91 hu hn q;have hok:=h.qnq hu hn;have aH:∀ p∈occ (cAt (xf A A.length)) (xy A q u),((occAt (occ (cAt (xf A A.length)) (xy A q u)) p.1).map fun q=>q.2.2).sum=0/\(occAt (occ (cAt (xf A A.length)) (xy A q u)) p.1).length=2:=fun p sH=>by
  have h1:(p.1,p.2.2)∈qcd (cAt (xf A A.length)) (xy A q u).s:=by
   rw[<-qe1];exact gE (f:=fun p:Int×Nat×Int=>(p.1,p.2.2)) sH
  obtain⟨h2,h3⟩:=hok _ (hp.mem_iff.1 h1);rw[qfl,qfk,qic ((hp.filter _).map _),(hp.filter _).length_eq];exact⟨h2,h3⟩
 unfold Cx.xv;rw[if_neg (fun ⟨p,sH,ak⟩=>ak (aH p sH).1),if_neg (fun ⟨p,sH,ak⟩=>ak (aH p sH).2),if_pos (fun i hi=>?_)];rcases Nat.eq_zero_or_pos i with h0 | h0
 ·exact .inl h0
 ·exact .inr (.single (h.adj hu hn q 0 i (by omega) hi))
theorem Smp.ids (h:Smp A) {u:List Int} (hu:u∈A) (q:Nat):((xy A q u).s.map Sd.c).Nodup:=by
 have hl:=h.len u hu;have hp:=h.pw u hu;have hm:=h.sub u hu;have hd:∀ v w:List Int,v∈A->w∈A->v≠w->cid A v≠cid A w:=fun v w hv hw ak e=>ak (h.inj hv hw e)
 refine(List.Perm.nodup_iff ((q2r _).map Sd.c)).2 ?_
 match u,hl with
 | [],_=>simp[z7]
 | [a],_=>simp[z7]
 | [a,b],_ =>
  simp only [List.pairwise_cons,List.mem_cons,List.not_mem_nil,or_false,forall_eq] at hp;have m1:=hm [a] (by simp) (by simp);have m2:=hm [b] (by simp) (by simp);have:[cid A [b],cid A [a]].Nodup:=by
   simp only [List.nodup_cons,List.mem_cons,List.not_mem_nil,or_false,not_false_eq_true,List.nodup_nil,and_true];exact hd _ _ m2 m1 (by simp;omega)
  exact this
 | [a,b,c],_ =>
  simp only [List.pairwise_cons,List.mem_cons,List.not_mem_nil,or_false,forall_eq_or_imp,forall_eq] at hp;obtain⟨⟨ab,ac⟩,bc,_⟩:=hp;have m1:=hm [b,c] (by simp) (by simp);have m2:=hm [a,c] (by simp) (by simp);have m3:=hm [a,b] (by simp) (by simp);have:[cid A [b,c],cid A [a,c],cid A [a,b]].Nodup:=by
   simp only [List.nodup_cons,List.mem_cons,List.not_mem_nil,or_false,not_or,not_false_eq_true,List.nodup_nil,and_true];exact⟨⟨hd _ _ m1 m2 (by simp;omega),hd _ _ m1 m3 (by simp;omega)⟩,hd _ _ m2 m3 (by simp;omega)⟩
  exact this
 | [a,b,c,d],_ =>
  simp only [List.pairwise_cons,List.mem_cons,List.not_mem_nil,or_false,forall_eq_or_imp,forall_eq] at hp;obtain⟨⟨ab,ac,ad⟩,⟨bc,bd⟩,cd,_⟩:=hp;have m1:=hm [b,c,d] (by simp) (by simp);have m2:=hm [a,c,d] (by simp) (by simp);have m3:=hm [a,b,d] (by simp) (by simp);have m4:=hm [a,b,c] (by simp) (by simp);have:[cid A [b,c,d],cid A [a,c,d],cid A [a,b,d],cid A [a,b,c]].Nodup:=by
   simp only [List.nodup_cons,List.mem_cons,List.not_mem_nil,or_false,not_or,not_false_eq_true,List.nodup_nil,and_true];exact⟨⟨hd _ _ m1 m2 (by simp;omega),hd _ _ m1 m3 (by simp;omega),hd _ _ m1 m4 (by simp;omega)⟩,⟨hd _ _ m2 m3 (by simp;omega),hd _ _ m2 m4 (by simp;omega)⟩,hd _ _ m3 m4 (by simp;omega)⟩
  exact this
 | _ :: _ :: _ :: _ :: _ :: _,hl=>simp at hl
theorem Smp.xx (h:Smp A) {u:List Int} (hu:u∈A) (q:Nat):xx (cAt (xf A A.length)) (xy A q u)=0:=by
 have hl:=h.len u hu;have ak:0 < u.length:=List.length_pos_iff.2 (h.ne u hu);have aX:=ql3 A q u;have dK:(xy A q u).dim=(u.length:Int) - 1:=rfl;have aZ:∀ s∈(xy A q u).s,1 < u.length/\∃ v∈A,s.c=cid A v/\v.length+1=u.length/\(s.g=1\/s.g = -1):=fun s hs=>h.side hu (q66 hs)
 unfold Cx.xx;rw[if_neg (by rw[dK];omega),if_neg (by rw[dK,aX];split <;> omega),if_neg,if_neg,if_neg]
 ·rintro ⟨h1,h2⟩;rw[dK] at h1;refine h2 ?_;rw[qnn];show ev _ (zx _)=0;rw[qnl,if_pos (by omega),show u.length=2 by omega];simp[z7,List.range_succ,ev]
 ·rw[List.any_eq_true];rintro ⟨s,hs,hb⟩;obtain⟨_,v,_,_,_,hg⟩:=aZ s hs;rcases hg with hg | hg <;> simp[hg] at hb
 ·rw[List.any_eq_true];rintro ⟨i,hi,hb⟩;have hi:=gy.1 hi;unfold xq at hb;rw[g8 hi] at hb;obtain⟨_,v,hv,hc,rV,_⟩:=aZ _ (List.getElem_mem hi);simp only [hc,h.get hv,Bool.or_eq_true,Bool.and_eq_true,decide_eq_true_eq] at hb;rcases hb with hb | ⟨h0,hb⟩
  ·have:(xy A (plc A v) v).dim=(v.length:Int) - 1:=rfl;rw[this,dK] at hb;simp at hb;omega
  ·rw[g8 (show i - 1 < (xy A q u).s.length by omega)] at hb;have mY:=gG.1 (h.ids hu q) (i - 1) i (by simp;omega) (by simpa using hi) (by omega);simp only [List.getElem_map] at mY;rw[hc] at mY;exact mY (by simpa using hb)
theorem ql4 {s:List Int} : ∀ {b:Nat},b < 2 ^ s.length - 1->j7 s (b+1)≠[]:=by
 have key:∀ (s:List Int) (b:Nat),0 < b->b < 2 ^ s.length->j7 s b≠[]:=fun s=>by
  induction s with
  | nil=>intro b h1 h2;simp at h2;omega
  | cons x s ih =>
   intro b h1 h2;unfold j7;split
   ·simp
   ·exact ih _ (by omega) (by rw[gD,Nat.pow_succ] at h2;omega)
 intro b hb;exact key s (b+1) (by omega) (by omega)
theorem qid (ls:List (List Int)) (hs:∀ s∈ls,s.length<=4/\s.Pairwise (· < ·)):Smp (kg ls) where
 srt:=(q07 ls).1
 sub:=fun _ hu _ h hv=>qi4 hu h hv
 len:=q8x ls fun s h=>(hs s h).1
 ne:=fun u hu=>by
  obtain⟨s,_,b,hb,rfl⟩:=(q07 ls).2.2 u hu;exact ql4 hb
 pw:=fun u hu=>by
  obtain⟨s,h,b,hb,rfl⟩:=(q07 ls).2.2 u hu;exact(hs s h).2.sublist (qao _ _)
theorem Smp.chk (h:Smp A) (hl:A.length<=4000):chk (xf A A.length)=(0,0):=by
 have h1:q0a (cAt (xf A A.length)) 0 (xf A A.length)=none:=ql2 (fun x hx=>by
  obtain⟨u,hu,rfl⟩:=h.of hx;exact⟨by show (0:Int) < ((plc A u:Nat):Int)+1;omega,h.xx hu _⟩) (q09 A A.length)
 have h2:∀ K:List Cl,(∀ x∈K,x∈xf A A.length)->k9 (cAt (xf A A.length)) K=none:=fun K=>by
  induction K with
  | nil=>intro _;rfl
  | cons x K ih =>
   intro hK;obtain⟨u,hu,he⟩:=h.of (hK x (by simp));unfold k9;rw[if_neg (fun ⟨h3,h4⟩=>h4 (by
    rw[he] at h3 ⊢;exact h.xv hu (by have:(xy A (plc A u) u).dim=(u.length:Int) - 1:=rfl;omega) _))]
   exact ih fun y hy=>hK y (by simp[hy])
 unfold Cx.chk;rw[if_neg (by simp[xf];omega),yh,h1];show ((k9 _ _).getD (0,0))=_;rw[h2 _ fun x hx=>hx];rfl
theorem q4g (ls:List (List Int)) (hn:ls.length<=12) (hs:∀ s∈ls,s.length<=4/\s.Pairwise (· < ·)):chk (q0m ls)=(0,0) :=
 (qid ls hs).chk (by have:=q3v ls fun s h=>(hs s h).1;omega)
end Go.Cx
namespace Go.Cx
open Go.Proofs.YtlhicnfeajejhaaGreatDoor
def sgO (l:List Sd) (c:Int):Option Int:=(l.reverse.find? fun s=>s.c == c).map Sd.g
def sgL (l:List Sd) (c:Int):Int:=(sgO l c).getD 0
theorem qie (l:List Sd) (s:Sd) (c:Int):sgO (l++[s]) c=if c=s.c then some s.g else sgO l c:=by
 unfold sgO;rw[List.reverse_append];show (List.find? _ (s :: l.reverse)).map _=_;rw[List.find?_cons];by_cases h:c=s.c
 ·subst h;simp
 ·rw[if_neg h];have:(s.c == c)=false:=by simpa using fun e=>h e.symm
  rw[this]
theorem q6h {l:List Sd} {c:Int} : (sgO l c).isSome=true↔∃ s∈l,s.c=c:=by
 unfold sgO;rw[Option.isSome_map,List.find?_isSome];simp
theorem qe3 {l:List Sd} {c g:Int} (h:sgO l c=some g):∃ s∈l,s.c=c/\s.g=g:=by
 unfold sgO at h;obtain⟨s,hs,rfl⟩:=Option.map_eq_some_iff.1 h;exact⟨s,by simpa using gT hs,by simpa using List.find?_some hs,rfl⟩
def zq (K:List Cl) (c:Int):List Sd:=((K.find? fun x=>x.id == c).map Cl.s).getD []
def sgn (K:List Cl) (high low:Int):Int:=sgL (zq K high) low
def jv (K:List Cl) (c:Int):Bool:=K.any fun x=>x.id == c
theorem q0n {K:List Cl} {c:Int} (h:jv K c=false):zq K c=[]:=by
 unfold zq;have:K.find? (fun x=>x.id == c)=none:=List.find?_eq_none.2 fun x hx=>by
  have:=List.any_eq_false.1 h x hx;simpa using this
 rw[this];rfl
theorem q0b {K:List Cl} (h:Asc K) {x:Cl} (hx:x∈K):zq K x.id=x.s:=by
 unfold zq;rw[qar h hx];rfl
theorem q92 {K:List Cl} {a b:Int} (h:sgn K a b≠0):jv K a=true:=by
 cases hh:jv K a with
 | true=>rfl
 | false=>exact absurd (by unfold sgn;rw[q0n hh];rfl) h
def pu (f:Int->Int) (c v:Int):Int->Int:=fun d=>if d=c then v else f d
def pdB (hi lo:Int->Int) (c:Int):Bool:=hi c != 0 || lo c != 0
def kc (K:List Cl) (hi lo:Int->Int) (a b:Int):Bool:=sgn K b a != 0 && !pdB hi lo a && !pdB hi lo b
def xk (K:List Cl):(Int->Int)->(Int->Int)->List (Int×Int)->Option ((Int->Int)×(Int->Int))
 | hi,lo,[]=>some (hi,lo)
 | hi,lo,p :: m=>if kc K hi lo p.1 p.2 then xk K (pu hi p.1 p.2) (pu lo p.2 p.1) m else none
def Wy (K:List Cl) (hi:Int->Int) (a c:Int):Prop:=(∃ s∈zq K (hi a),s.c=c)/\c≠a/\hi c≠0
def yp (K:List Cl) (hi:Int->Int) (a:Int):Prop:=Relation.TransGen (Wy K hi) a a
open Classical in
noncomputable def j8 (K:List Cl) (m:List (Int×Int)):Int :=
 match xk K (fun _=>0) (fun _=>0) m with
 | none=>42
 | some st=>if ∃ p∈m,yp K st.1 p.1 then 43 else 0
def kd (K:List Cl) (c:Int):List Int:=((cellsOf K).filter fun x=>x.s.any fun s=>s.c == c).map Cl.id
open Classical in
noncomputable def firstM (K:List Cl) (hi lo:Int->Int) (c:Int) (l:List Int):Option Int:=l.find? fun h=>kc K hi lo c h && !decide (yp K (pu hi c h) c)
noncomputable def q3w (K:List Cl):(Int->Int)->(Int->Int)->List Int->List (Int×Int)
 | _,_,[]=>[]
 | hi,lo,c :: l=>match firstM K hi lo c (kd K c) with
  | some h=>(c,h) :: q3w K (pu hi c h) (pu lo h c) l
  | none=>q3w K hi lo l
def q27 (K:List Cl) (hi lo:Int->Int) (d:Int):List Int:=(q04 K d).filter fun c=>!pdB hi lo c
def qw (c x:Int):Int->Int:=fun d=>if d=c then x else 0
def bdD (K:List Cl) (c x:Int):Int->Int:=fun d=>co (bdL (qw c x) (z8 K)) d
inductive Clr (K:List Cl) (hi:Int->Int):Nat->(Int->Int)->(Int->Int)->(Int->Int)->(Int->Int)->Prop
 | done (f h:Int->Int) (h0:∀ c,f c≠0->hi c=0):Clr K hi 0 f h f h
 | step (n:Nat) (f h f' h':Int->Int) (c:Int) (h1:f c≠0) (h2:hi c≠0) (h3:∀ d,d < c->f d≠0->hi d=0)
   (h4:Clr K hi n (fun d=>f d+bdD K (hi c) (-(sgn K (hi c) c)*f c) d) (fun d=>h d+qw (hi c) (-(sgn K (hi c) c)*f c) d) f' h'):Clr K hi (n+1) f h f' h'
theorem ql5 {K:List Cl} {hi:Int->Int} {a:Int} (S:Int->Prop) (h1:∀ c,Wy K hi a c->S c) (h2:∀ b c,S b->Wy K hi b c->S c) (h3:¬ S a):¬ yp K hi a:=fun h=>by
 have:∀ c,Relation.TransGen (Wy K hi) a c->S c:=fun c hc=>by
  induction hc with
  | single h=>exact h1 _ h
  | tail _ h ih=>exact h2 _ _ ih h
 exact h3 (this a h)
theorem q7w:∀ {A B:List (List Int)},q0v A->q0v B->(∀ u,u∈A↔u∈B)->A=B
 | [],[],_,_,_=>rfl
 | [],b :: B,_,_,h=>absurd ((h b).2 (by simp)) (by simp)
 | a :: A,[],_,_,h=>absurd ((h a).1 (by simp)) (by simp)
 | a :: A,b :: B,hA,hB,h=>by
  obtain⟨a1,a2⟩:=gx.1 hA;obtain⟨b1,b2⟩:=gx.1 hB;have cy:a=b:=by
   rcases gt.1 ((h a).1 (by simp)) with e | h1
   ·exact e
   rcases gt.1 ((h b).2 (by simp)) with e | h2
   ·exact e.symm
   have:=q1f (a1 b h2) (b1 a h1);rw[q12] at this;cases this
  subst cy
  congr 1
  refine q7w a2 b2 fun u=>⟨fun hu=>?_,fun hu=>?_⟩
  ·rcases gt.1 ((h u).1 (gX _ hu)) with e | h1
   ·have:=a1 u hu;rw[e,q12] at this;cases this
   ·exact h1
  ·rcases gt.1 ((h u).2 (gX _ hu)) with e | h1
   ·have:=b1 u hu;rw[e,q12] at this;cases this
   ·exact h1
theorem qe4 {ls B:List (List Int)} (hB:q0v B) (h1:∀ s∈ls,∀ b,b < 2 ^ s.length - 1->j7 s (b+1)∈B) (h2:∀ u∈B,∃ s∈ls,∃ b,b < 2 ^ s.length - 1/\u=j7 s (b+1)):kg ls=B:=by
 obtain⟨p1,p2,p3⟩:=q07 ls;refine q7w p1 hB fun u=>⟨fun hu=>?_,fun hu=>?_⟩
 ·obtain⟨s,hs,b,hb,rfl⟩:=p3 u hu;exact h1 s hs b hb
 ·obtain⟨s,hs,b,hb,rfl⟩:=h2 u hu;exact p2 s hs b hb
theorem ql6:kg [[0,1,2]]=[[0],[1],[2],[0,1],[0,2],[1,2],[0,1,2]] :=
 qe4 (by unfold q0v;decide) (by decide) (by decide)
theorem ql7:kg [[0,1],[0,2],[1,2]]=[[0],[1],[2],[0,1],[0,2],[1,2]] :=
 qe4 (by unfold q0v;decide) (by decide) (by decide)
def K1:List Cl:=[⟨1,0,[]⟩,⟨2,0,[]⟩,⟨3,0,[]⟩,⟨4,1,[⟨1,-1⟩,⟨2,1⟩]⟩,⟨5,1,[⟨1,-1⟩,⟨3,1⟩]⟩,⟨6,1,[⟨2,-1⟩,⟨3,1⟩]⟩,⟨7,2,[⟨4,1⟩,⟨5,-1⟩,⟨6,1⟩]⟩]
def K2:List Cl:=[⟨1,0,[]⟩,⟨2,0,[]⟩,⟨3,0,[]⟩,⟨4,1,[⟨1,-1⟩,⟨2,1⟩]⟩,⟨5,1,[⟨1,-1⟩,⟨3,1⟩]⟩,⟨6,1,[⟨2,-1⟩,⟨3,1⟩]⟩]
theorem q3x:q0m [[0,1,2]]=K1:=by
 unfold q0m;rw[ql6];simp[xf,xy,z7,zx,yv,plc,vw,yf,lexB,List.range_succ,K1]
theorem q3y:q0m [[0,1],[0,2],[1,2]]=K2:=by
 unfold q0m;rw[ql7];simp[xf,xy,z7,zx,yv,plc,vw,yf,lexB,List.range_succ,K2]
theorem qcg:chk K1=(0,0):=by rw[<-q3x];exact q4g _ (by decide) (by decide)
theorem q4h:chk K2=(0,0):=by rw[<-q3y];exact q4g _ (by decide) (by decide)
theorem qas:cellsOf K1=K1:=by rw[<-q3x];exact q3e _ _
theorem qat:cellsOf K2=K2:=by rw[<-q3y];exact q3e _ _
def qch (K:List Cl) (hi:Int->Int) (a:Int):List Int:=((zq K (hi a)).map Sd.c).filter fun c=>c != a && hi c != 0
theorem q3z {K:List Cl} {hi:Int->Int} {a c:Int} : Wy K hi a c↔c∈qch K hi a:=by
 unfold Wy qch;rw[gH,go];simp
theorem jb {K:List Cl} {hi:Int->Int} {a:Int} (S:List Int) (h:(∀ c∈qch K hi a,c∈S)/\(∀ b∈S,∀ c∈qch K hi b,c∈S)/\a ∉ S):¬ yp K hi a :=
 ql5 (·∈S) (fun c hc=>h.1 c (q3z.1 hc)) (fun b c hb hc=>h.2.1 b hb c (q3z.1 hc)) h.2.2
section
variable {K:List Cl} {hi lo:Int->Int} {c x:Int} {l:List Int}
theorem vl (h:kc K hi lo c x=false):firstM K hi lo c (x :: l)=firstM K hi lo c l:=by
 unfold firstM;rw[List.find?_cons,h];rfl
open Classical in
theorem q28 (h:yp K (pu hi c x) c):firstM K hi lo c (x :: l)=firstM K hi lo c l:=by
 unfold firstM;rw[List.find?_cons,decide_eq_true h,Bool.not_true,Bool.and_false]
open Classical in
theorem vo (h:kc K hi lo c x=true) (h2:¬ yp K (pu hi c x) c):firstM K hi lo c (x :: l)=some x:=by
 unfold firstM;rw[List.find?_cons,decide_eq_false h2,h];rfl
theorem jg:firstM K hi lo c []=none:=rfl
theorem q00 {h:Int} (e:firstM K hi lo c (kd K c)=some h):q3w K hi lo (c :: l)=(c,h) :: q3w K (pu hi c h) (pu lo h c) l:=by
 rw[q3w,e]
theorem jk (e:firstM K hi lo c (kd K c)=none):q3w K hi lo (c :: l)=q3w K hi lo l:=by
 rw[q3w,e]
end
def zz:Int->Int:=fun _=>0
def hi1:Int->Int:=pu (pu (pu zz 1 4) 2 6) 5 7
def lo1:Int->Int:=pu (pu (pu zz 4 1) 6 2) 7 5
def hi2:Int->Int:=pu (pu zz 1 4) 2 6
def lo2:Int->Int:=pu (pu zz 4 1) 6 2
theorem qci:xk K1 zz zz [(1,4),(2,6),(5,7)]=some (hi1,lo1):=by
 rw[xk,if_pos (by decide),xk,if_pos (by decide),xk,if_pos (by decide),xk];rfl
theorem qcj:xk K2 zz zz [(1,4),(2,6)]=some (hi2,lo2):=by
 rw[xk,if_pos (by decide),xk,if_pos (by decide),xk];rfl
theorem qe5 {K:List Cl} {m:List (Int×Int)} {st:(Int->Int)×(Int->Int)} (h:xk K zz zz m=some st) (h2:∀ p∈m,¬ yp K st.1 p.1):j8 K m=0:=by
 unfold j8;rw[show (fun _=>0:Int->Int)=zz from rfl,h];exact if_neg fun ⟨p,hp,hc⟩=>h2 p hp hc
theorem qnr:j8 K1 [(1,4),(2,6),(5,7)]=0:=qe5 qci fun p hp=>by
 simp only [List.mem_cons,List.not_mem_nil,or_false] at hp;rcases hp with rfl | rfl | rfl
 ·exact jb [2] (by decide)
 ·exact jb [] (by decide)
 ·exact jb [] (by decide)
theorem qns:j8 K2 [(1,4),(2,6)]=0:=qe5 qcj fun p hp=>by
 simp only [List.mem_cons,List.not_mem_nil,or_false] at hp;rcases hp with rfl | rfl
 ·exact jb [2] (by decide)
 ·exact jb [] (by decide)
theorem qif (K:List Cl) (hi:Int->Int) (h1:1∈qch K hi 3) (h2:2∈qch K hi 1) (h3:3∈qch K hi 2):yp K hi 3 :=
 ((Relation.TransGen.single (q3z.2 h1)).tail (q3z.2 h2)).tail (q3z.2 h3)
theorem qnt:j8 K2 [(1,4),(2,6),(3,5)]=43:=by
 have h:xk K2 zz zz [(1,4),(2,6),(3,5)]=some (pu hi2 3 5,pu lo2 5 3):=by
  rw[xk,if_pos (by decide),xk,if_pos (by decide),xk,if_pos (by decide),xk];rfl
 unfold j8;rw[show (fun _=>0:Int->Int)=zz from rfl,h];exact if_pos ⟨(3,5),by simp,qif _ _ (by decide) (by decide) (by decide)⟩
theorem qnu:j8 K2 [(1,4),(1,5)]=42:=by
 have h:xk K2 zz zz [(1,4),(1,5)]=none:=by
  rw[xk,if_pos (by decide),xk,if_neg (by decide)]
 unfold j8;rw[show (fun _=>0:Int->Int)=zz from rfl,h]
theorem qnv:j8 K2 [(1,6)]=42:=by
 have h:xk K2 zz zz [(1,6)]=none:=by rw[xk,if_neg (by decide)]
 unfold j8;rw[show (fun _=>0:Int->Int)=zz from rfl,h]
theorem qnw:q3w K1 zz zz [1,2,3,4,5,6,7]=[(1,4),(2,6),(5,7)]:=by
 have a:∀ c,kd K1 c=(K1.filter fun x=>x.s.any fun s=>s.c == c).map Cl.id:=fun c=>by unfold kd;rw[qas]
 rw[q00 (h:=4) (by rw[a];exact vo (by decide) (jb [] (by decide)))];rw[q00 (h:=6) (by rw[a];exact(vl (x:=4) (by decide)).trans (vo (by decide) (jb [] (by decide))))];rw[jk (by rw[a];exact(q28 (x:=5) (qif _ _ (by decide) (by decide) (by decide))).trans ((vl (x:=6) (by decide)).trans jg))];rw[jk (by rw[a];exact(vl (x:=7) (by decide)).trans jg)];rw[q00 (h:=7) (by rw[a];exact vo (by decide) (jb [] (by decide)))];rw[jk (by rw[a];exact(vl (x:=7) (by decide)).trans jg)];rw[jk (by rw[a];exact jg)];rfl
theorem qnx:q3w K2 zz zz [1,2,3,4,5,6]=[(1,4),(2,6)]:=by
 have a:∀ c,kd K2 c=(K2.filter fun x=>x.s.any fun s=>s.c == c).map Cl.id:=fun c=>by unfold kd;rw[qat]
 rw[q00 (h:=4) (by rw[a];exact vo (by decide) (jb [] (by decide)))];rw[q00 (h:=6) (by rw[a];exact(vl (x:=4) (by decide)).trans (vo (by decide) (jb [] (by decide))))];rw[jk (by rw[a];exact(q28 (x:=5) (qif _ _ (by decide) (by decide) (by decide))).trans ((vl (x:=6) (by decide)).trans jg))];rw[jk (by rw[a];exact jg)];rw[jk (by rw[a];exact jg)];rw[jk (by rw[a];exact jg)];rfl
theorem qck:q27 K1 hi1 lo1 0=[3]/\q27 K1 hi1 lo1 1=[]/\q27 K1 hi1 lo1 2=[]:=by
 unfold q27 q04;rw[qas];decide
theorem qny:q27 K2 hi2 lo2 1=[5]:=by
 unfold q27 q04;rw[qat];decide
end Go.Cx
