/- Steps towards MorseChecks. Conditions: none. -/
import Derived.Deep.RegionHeldLaw
import Derived.Test.YtlhicnfeajejhaaGreatDoorFQd
set_option maxRecDepth 1000000
set_option maxHeartbeats 16000000
namespace Go.Cx
open Go.Proofs.YtlhicnfeajejhaaGreatDoor
section
variable (T:Int->Option Cl) (x:Cl)
def oF (k:Nat):List (Int×Nat×Int):=match x.s[k]? with
 | none=>[]
 | some s=>match T s.c with
  | none=>[]
  | some y=>y.s.map fun r=>(r.c,k,s.g*r.g)
def q1k (k:Nat):List (Int×Nat×Int):=(List.range k).flatMap (oF T x)
theorem q80 (k:Nat):q1k T x (k+1)=q1k T x k++oF T x k:=by
 unfold q1k;rw[bp,List.flatMap_append];simp
theorem qb2:q1k T x x.s.length=occ T x:=rfl
end
def q0c (o:List (Int×Nat×Int)) (c:Int):Int:=((occAt o c).map fun p=>p.2.2).sum
def plO (o:List (Int×Nat×Int)) (c:Int):List Int:=(occAt o c).map fun p=>(p.2.1:Int)
theorem q3g (o:List (Int×Nat×Int)) (p:Int×Nat×Int) (d:Int):occAt (o++[p]) d=if d=p.1 then occAt o d++[p] else occAt o d:=by
 unfold occAt;rw[bm];by_cases h:d=p.1
 ·simp[h]
 ·have:(p.1 == d)=false:=by simpa using fun e=>h e.symm
  simp[h,this]
theorem qfq (o:List (Int×Nat×Int)) (p:Int×Nat×Int):q0c (o++[p])=pu (q0c o) p.1 (q0c o p.1+p.2.2):=by
 funext d
 unfold q0c pu;rw[q3g];by_cases h:d=p.1
 ·subst h;simp
 ·simp[h]
theorem qim (o:List (Int×Nat×Int)) (p:Int×Nat×Int):plO (o++[p])=q1r (plO o) p.1 p.2.1:=by
 funext d
 unfold plO q1r;rw[q3g];by_cases h:d=p.1
 ·subst h;simp
 ·simp[h]
theorem qcm (o:List (Int×Nat×Int)) (h:∀ p∈o,-1<=p.2.2/\p.2.2<=1) (c:Int) : -(o.length:Int)<=q0c o c/\q0c o c<=o.length:=by
 induction o with
 | nil=>simp[q0c,occAt]
 | cons p o ih =>
  have h1:=ih fun q hq=>h q (gX _ hq)
  have h2:=h p gP;unfold q0c occAt at h1 ⊢;rw[List.filter_cons];split
  ·rw[gN,bh,gD];omega
  ·rw[gD];omega
theorem qle (o:List (Int×Nat×Int)) (c:Int):(plO o c).length<=o.length:=by
 unfold plO occAt;rw[gm];exact bg _ _
end Go.Cx
namespace Go.Proofs.YtlhicnfeajejhaaGreatDoor
open Go.RowKit Go.Cx Go.Maps
attribute [local go_sem ↓] Go.wp_at_zero Go.wp_at_succ
theorem qin (i d:Int) (a:Option Addr) (n c:Nat):∀ w:World,(Instr.field 75 (.agg #[.int .i64 i,.int .i64 d,.slice a n c]) 2).run Tryz.prog w = .ok (.slice a n c) w:=fun w=>by kernel_rfl
def q99 (s:List Sd):Prop:=s.length<=64/\∀ r∈s,I64 r.c/\(r.g=1\/r.g = -1)
theorem qio {T:Int->Option Cl} {x:Cl} (hT:∀ c y,T c=some y->q99 y.s) (k:Nat):(oF T x k).length<=64:=by
 unfold oF;cases x.s[k]? with
 | none=>simp
 | some s =>
  dsimp only
  cases h:T s.c with
  | none=>simp
  | some y=>simp only [List.length_map];exact(hT _ y h).1
theorem qb3 {T:Int->Option Cl} {x:Cl} (hT:∀ c y,T c=some y->q99 y.s) (k:Nat):(q1k T x k).length<=k*64:=by
 induction k with
 | zero=>simp[q1k]
 | succ k ih=>rw[q80,gl];have:=qio (x:=x) hT k;omega
theorem qmm {T:Int->Option Cl} {x:Cl} (hx:q99 x.s) (hT:∀ c y,T c=some y->q99 y.s) (k:Nat):∀ p∈oF T x k,-1<=p.2.2/\p.2.2<=1:=by
 unfold oF;cases hs:x.s[k]? with
 | none=>simp
 | some s =>
  dsimp only
  cases h:T s.c with
  | none=>simp
  | some y =>
   intro p hp;obtain⟨r,hr,rfl⟩:=go.1 hp;have h1:=(hx.2 s (gd hs)).2;have h2:=((hT _ y h).2 r hr).2;show -1<=s.g*r.g/\s.g*r.g<=1;rcases h1 with h1 | h1 <;> rcases h2 with h2 | h2 <;> rw[h1,h2] <;> decide
theorem qlf {T:Int->Option Cl} {x:Cl} (hx:q99 x.s) (hT:∀ c y,T c=some y->q99 y.s) (k:Nat):∀ p∈q1k T x k,-1<=p.2.2/\p.2.2<=1:=by
 intro p hp;obtain⟨i,_,hi⟩:=List.mem_flatMap.1 hp;exact qmm hx hT i p hi
theorem q81 {S:Nat->Prop} {w w':World} (h:Gs S w w') {P:Program} {k:TypeId} {H:Type} {R:Value->Option (DataW H×List MemPlace)} {b r n:Nat} {D:DataW H} {left:Lit->Bool} {kK:Nat} (hr:w.ranges P k R b r n D left kK) (hb:¬ S b) (zW:¬ S r):w'.ranges P k R b r n D left kK:=by
 obtain⟨es,clock,since,seen,c0,ca,F,hs,hD,o8,rest⟩:=hr;have lb:b < w.heap.size:=(gw.1 ca).1;have lr:r < w.heap.size:=(gw.1 o8).1;exact⟨es,clock,since,seen,c0,by rw[h.blk b lb hb];exact ca,F,hs,hD,by rw[h.blk r lr zW];exact o8,rest⟩
theorem qb4 {jl:Int->List Int} {n:Nat} (h:∀ i,(jl i).length<=n) (c x:Int):∀ i,(q1r jl c x i).length<=n+1:=fun i=>by
 unfold q1r;split
 ·rw[gl];have:=h c;simp;omega
 ·have:=h i;omega
theorem qb5 {jl:Int->List Int} {c x i k:Int} : k∈q1r jl c x i↔k∈jl i\/(i=c/\k=x):=by
 unfold q1r;split
 ·next e=>subst e;rw[gF,List.mem_singleton];simp
 ·next e=>simp[e]
theorem q82 (x:Int):(Lit.int .i64 x).sameKey (Lit.int .i64 x)=true:=by
 simp[Lit.sameKey]
theorem qea {left:Lit->Bool} {c nx:Int} (h:(left (.int .i64 c) && !(Lit.int .i64 c).sameKey (Lit.int .i64 nx))=false) (hn:c≠nx):left (.int .i64 c)=false:=by
 cases hl:left (.int .i64 c) with
 | false=>rfl
 | true =>
  rw[hl,Bool.true_and] at h;have:(Lit.int .i64 c).sameKey (Lit.int .i64 nx)=true:=by simpa using h
  have:=WideAt.sameKey_eq this;injection this with _ e
  exact absurd e hn
theorem q9a {T:Int->Option Cl} {x:Cl} {c i:Int} (h:i∈plO (occ T x) c):∃ k:Nat,i=k/\k < x.s.length:=by
 unfold plO at h;obtain⟨p,hp,rfl⟩:=go.1 h;have hp:=(gH.1 hp).1;unfold occ at hp;obtain⟨k,hk,hp⟩:=List.mem_flatMap.1 hp;have hk:=gy.1 hk;refine⟨k,?_,hk⟩;rw[g8 hk] at hp
 dsimp only at hp
 split at hp
 ·cases hp
 ·obtain⟨r,_,rfl⟩:=go.1 hp;rfl
theorem qeb {T:Int->Option Cl} {x:Cl} {o:List (Int×Nat×Int)} (ho:o=occ T x) (hx:x.s.length<=64) {c i:Int} (h:i∈plO o c):I64 i:=by
 rw[ho] at h;obtain⟨k,rfl,hk⟩:=q9a h;unfold I64;omega
theorem q43:∀ (L R:List Int),L.Nodup->(∀ c∈L,c∈R)->L.length<=R.length
 | [],_,_,_=>gp _
 | a :: l,R,hd,hs=>by
  obtain⟨h1,h2⟩:=List.nodup_cons.1 hd;have ha:=hs a (gP ..);have:=q43 l (R.erase a) h2 (fun c hc=>(List.mem_erase_of_ne (fun e=>by subst e;exact h1 hc)).2 (hs c (gX _ hc)));rw[List.length_erase_of_mem ha] at this;have:0 < R.length:=List.length_pos_of_mem ha;simp only [List.length_cons];omega
theorem qfr {L R:List Int} (hd:L.Nodup) (hs:∀ c∈L,c∈R) (he:R.length<=L.length):∀ c∈R,c∈L:=fun c hc=>by
 apply gR;intro hn;have:=q43 (c :: L) R (List.nodup_cons.2 ⟨hn,hd⟩) (fun d hd=>(gt.1 hd).elim (fun e=>e ▸ hc) (hs d));simp only [List.length_cons] at this;omega
theorem q44 {o:List (Int×Nat×Int)} {c i:Int} : i∈plO o c↔∃ (k:Nat) (g:Int),i=k/\(c,k,g)∈o:=by
 unfold plO occAt;constructor
 ·intro h;obtain⟨p,hp,rfl⟩:=go.1 h;obtain⟨h1,h2⟩:=gH.1 hp;have h2:p.1=c:=by simpa using h2
  subst h2;exact⟨p.2.1,p.2.2,rfl,h1⟩
 ·rintro ⟨k,g,rfl,h⟩;exact go.2 ⟨(c,k,g),gH.2 ⟨h,by simp⟩,rfl⟩
theorem qcn {T:Int->Option Cl} {x:Cl} {o:List (Int×Nat×Int)} (ho:o=occ T x) (fQ:∀ c,q0c o c=0) (h2:∀ c,plO o c≠[]->(plO o c).length=2) (hn:0 < x.s.length) {S:Int->Prop} {L:List Int} (hL:L.Nodup) (hm:∀ c,c∈L↔S c) (h0:S 0)
  {J:Int->Int->Prop} (hJ:∀ i k,J i k↔∃ c,plO o c=[i,k]\/plO o c=[k,i]) (hr:∀ d,Relation.TransGen J 0 d->S d) (hs:∀ d,S d->d=0\/Relation.TransGen J 0 d) :
  xv T x=if L.length=x.s.length then 0 else 25:=by
 have pO:∀ i k,J i k->∃ k':Nat,k=k'/\k' < x.s.length:=fun i k h=>by
  obtain⟨c,hc⟩:=(hJ i k).1 h;refine q9a (T:=T) (x:=x) (c:=c) ?_;rw[<-ho];rcases hc with hc | hc <;> rw[hc] <;> simp
 have CH:∀ i k:Nat,J i k->adj o i k:=fun i k h=>by
  obtain⟨c,hc⟩:=(hJ i k).1 h;have h1:(i:Int)∈plO o c:=by rcases hc with hc | hc <;> rw[hc] <;> simp
  have h2:(k:Int)∈plO o c:=by rcases hc with hc | hc <;> rw[hc] <;> simp
  obtain⟨a,g,e1,m1⟩:=q44.1 h1;obtain⟨b,g',e2,m2⟩:=q44.1 h2;have e1:i=a:=by omega
  have e2:k=b:=by omega
  subst e1 e2;exact⟨c,g,g',m1,m2⟩
 have uH:∀ i k:Nat,adj o i k->i=k\/J i k:=fun i k ⟨c,g,g',m1,m2⟩=>by
  have h1:(i:Int)∈plO o c:=q44.2 ⟨i,g,rfl,m1⟩;have h3:(k:Int)∈plO o c:=q44.2 ⟨k,g',rfl,m2⟩;have hl:=h2 c (fun e=>by rw[e] at h1;cases h1)
  match hp:plO o c,hl with
  | [a,b],_ =>
   rw[hp] at h1 h3;simp only [List.mem_cons,List.not_mem_nil,or_false] at h1 h3;by_cases he:i=k
   ·exact .inl he
   ·refine .inr ((hJ i k).2 ⟨c,?_⟩);rw[hp];rcases h1 with h1 | h1 <;> rcases h3 with h3 | h3
    ·omega
    ·rw[h1,h3];exact .inl rfl
    ·rw[h1,h3];exact .inr rfl
    ·omega
 have Nv:∀ d,Relation.TransGen J 0 d->∃ k:Nat,d=k/\k < x.s.length/\Relation.TransGen (adj o) 0 k:=fun d hd=>by
  induction hd with
  | single h =>
   obtain⟨k,rfl,hk⟩:=pO _ _ h;exact⟨k,rfl,hk,.single (CH 0 k h)⟩
  | tail _ h ih =>
   obtain⟨b,rfl,_,hb⟩:=ih;obtain⟨k,rfl,hk⟩:=pO _ _ h;exact⟨k,rfl,hk,.tail hb (CH b k h)⟩
 have CI:∀ k:Nat,Relation.TransGen (adj o) 0 k->k=0\/Relation.TransGen J 0 (k:Int):=fun k hk=>by
  induction hk with
  | single h =>
   rcases uH _ _ h with rfl | h
   ·exact .inl rfl
   ·exact .inr (.single h)
  | tail _ h ih =>
   rcases uH _ _ h with rfl | h
   ·exact ih
   ·rcases ih with rfl | ih
    ·exact .inr (.single h)
    ·exact .inr (.tail ih h)
 have nk:∀ c∈L,c∈(List.range x.s.length).map fun k:Nat=>(k:Int):=fun c hc=>by
  rcases hs c ((hm c).1 hc) with rfl | h
  ·exact go.2 ⟨0,gy.2 hn,rfl⟩
  ·obtain⟨k,rfl,hk,_⟩:=Nv _ h;exact go.2 ⟨k,gy.2 hk,rfl⟩
 have Wg:((List.range x.s.length).map fun k:Nat=>(k:Int)).length=x.s.length:=by simp
 have S7:((List.range x.s.length).map fun k:Nat=>(k:Int)).Nodup:=by
  unfold List.Nodup;rw[List.pairwise_map];exact List.Pairwise.imp (fun h e=>h (by omega)) (List.nodup_range (n:=x.s.length))
 have hS:∀ k:Nat,S k↔(k=0\/Relation.TransGen J 0 (k:Int)):=fun k=>⟨fun h=>(hs _ h).imp (fun e=>by omega) id,fun h=>h.elim (fun e=>by rw[e];exact h0) (hr _)⟩
 classical
 have hE:xv T x=if ∀ i < x.s.length,i=0\/Relation.TransGen (adj o) 0 i then 0 else 25:=by
  unfold xv;rw[<-ho,if_neg (fun ⟨q,_,hq⟩=>hq (fQ q.1)),if_neg];rintro ⟨q,hq,ak⟩;apply ak;have:plO o q.1≠[]:=fun e=>by
   have:(q.2.1:Int)∈plO o q.1:=q44.2 ⟨q.2.1,q.2.2,rfl,hq⟩;rw[e] at this;cases this
  have:=h2 _ this;unfold plO at this;rwa [gm] at this
 rw[hE];by_cases hl:L.length=x.s.length
 ·rw[if_pos hl,if_pos];intro i hi;have:=(hS i).1 ((hm _).1 (qfr hL nk (by omega) i (go.2 ⟨i,gy.2 hi,rfl⟩)));rcases this with h | h
  ·exact .inl h
  ·obtain⟨k,e,_,hk⟩:=Nv _ h;have:i=k:=by omega
   subst this;exact .inr hk
 ·rw[if_neg hl,if_neg];intro aH;apply hl;have h1:=q43 _ _ hL nk;have h2:=q43 _ L S7 (fun c hc=>by
   obtain⟨k,hk,rfl⟩:=go.1 hc;have hk:=gy.1 hk;rw[hm,hS];rcases aH k hk with h | h
   ·exact .inl h
   ·exact CI k h)
  omega
theorem qip (T B n:Nat) (m:List Ce) (x:Ce) (w:World) (q0:w.cell? ⟨T,0,none⟩=some (.map (some B))) (dt:Mp Tryz.prog 3 w B n (gOf m)) (hs:Sl w 2 x.sl (cat Sd.enc x.s)) (ht:∀ y∈m,Sl w 2 y.sl (cat Sd.enc y.s)) (hx:q99 x.s) (cG:0 < x.s.length) (hT:∀ c y,qx m c=some y->q99 y.s) :
  Calls Tryz.prog 179 #[.pointer (some ⟨T,0,none⟩),x.v] w fun e w'=>e = .returned (.int .i64 (xv (qx m) x.cl))/\Below w.heap.size w w':=by
 unfold Ce.sl at hs;obtain⟨h1,h2,h3,h4,h5⟩:=hs.open;rw[qt Sd.qp] at h3;have hl:x.s.length=x.n:=by omega
 unfold maxLen at h2;unfold Ce.v;have eL:x.n<=64:=by have:=hx.1;omega
 have HS:=lhd (aiq hs ht);have HM:=lhd dt;have HX:=lhd (aiq hx (aiq cG (aiq hT hl)));have cC:=@run_makeMap Tryz.prog;have mixed:Tryz.prog.follows .mixedOrders=true:=by kernel_rfl
 clear h3 h4 h5 hs ht dt hx cG hT hl;go_enter Tryz.func179,Tryz.ntmps179;go_wp2_with fail;obtain⟨W,hW⟩ : ∃ W,W=((w.alloc (.cells #[.int .i64 x.id,.int .i64 x.dim,.slice x.a x.n x.c] 75)).alloc (.map #[] 0)).alloc (.map #[] 0):=⟨_,rfl⟩
 rw[<-hW];have aK:Below w.heap.size w W:=by rw[hW];exact(((Below.refl _ w).alloc (nlr _) _).alloc (by simp) _).alloc (by simp;omega) _
 have k2:W.cell? ⟨w.heap.size,2,none⟩=some (.slice x.a x.n x.c):=by rw[hW];exact qk (qk (qd w _ _ (0,0) 2) _) _
 have mS:MpI W (w.heap.size+1) 0 (q0c []):=by
  rw[hW,show q0c []=fun _=>0 from rfl];have:=MpI.made (w.alloc (.cells #[.int .i64 x.id,.int .i64 x.dim,.slice x.a x.n x.c] 75));rw[World.size_alloc] at this;exact this.q8 ((Below.refl _ _).alloc (nlr _) _)
 have mM:Rws W (w.heap.size+3) (w.heap.size+1+1) (fun _=>False) 0 (plO []):=by
  rw[hW,show plO []=fun _=>[] from rfl];have:=Rws.made ((w.alloc (.cells #[.int .i64 x.id,.int .i64 x.dim,.slice x.a x.n x.c] 75)).alloc (.map #[] 0)) (w.heap.size+3) (fun _=>False);simp only [World.size_alloc] at this;exact this
 have tH:W.heap.size=w.heap.size+3:=by rw[hW];simp
 obtain⟨bx,iX⟩ : ∃ b,b=w.heap.size:=⟨_,rfl⟩
 obtain⟨BU,cW⟩ : ∃ b,b=w.heap.size+1:=⟨_,rfl⟩
 obtain⟨BM,Jh⟩ : ∃ b,b=w.heap.size+1+1:=⟨_,rfl⟩
 obtain⟨base,af⟩ : ∃ b,b=w.heap.size+3:=⟨_,rfl⟩
 rw[<-Jh] at mM ⊢;rw[<-cW] at mS ⊢;rw[<-af] at mM tH;have fs:bx < BU/\BU < BM/\BM < base:=by omega
 have cm:w.heap.size<=bx/\bx<=w.heap.size:=by omega
 rw[<-iX] at k2 ⊢;have HW:=lhd (aiq aK (aiq iX (aiq cW (aiq Jh af))));have CJ:base<=W.heap.size:=by omega
 clear hW aK iX cW Jh af tH;go_wp2_with fail;go_loopw [23] (fun i wr=>∃ k:Nat,i = .int .i64 k/\k<=x.n/\MpI wr BU (q1k (qx m) x.cl k).length (q0c (q1k (qx m) x.cl k))/\Rws wr base BM (fun _=>False) (q1k (qx m) x.cl k).length (plO (q1k (qx m) x.cl k))/\Hid (Below w.heap.size w wr)/\wr.cell? ⟨bx,2,none⟩=some (.slice x.a x.n x.c)/\base<=wr.heap.size) (fun i _=>x.n - (vI i).toNat)
 case atStart=>exact⟨0,rfl,gp _,mS,mM,HW.out.1,k2,CJ⟩
 case round =>
  clear mS mM k2 CJ;obtain⟨k,rfl,hk,mS,mM,HB,k2,fI⟩:=hrel;by_cases hlt:k < x.n
  ·obtain⟨s,hs⟩ : ∃ s,x.s[k]? = some s:=⟨_,g8 (by rw[HX.out.2.2.2];exact hlt)⟩
   obtain⟨_,_,_,h5,h6⟩:=(HS.out.1.q8 HB.out).open;obtain⟨ad,bI⟩ : ∃ ad,x.a=some ad:=by
    cases ha:x.a with
    | none=>have:=h5 ha;omega
    | some ad=>exact⟨ad,rfl⟩
   obtain⟨e0,e1⟩:=zw x.s k s hs;have g0:wr.cell? (ad.add (k*2))=some (.int .i64 s.c):=h6 ad bI _ _ e0;have g1:wr.cell? ⟨(ad.add (k*2)).block,(ad.add (k*2)).off+1,none⟩=some (.int .i64 s.g):=by rw[qi _ _ _ (by omega)];exact h6 ad bI _ _ e1
   have cr:=HX.out.1.2 s (gd hs);have aq:=yx cr.1;have vX:wr.cell? ⟨T,0,none⟩=some (.map (some B)):=Cx.q8 HB.out q0;obtain⟨zi,zd,za,zn,zc,hz⟩ : ∃ (zi zd:Int) (za:Option Addr) (zn zc:Nat),(gOf m s.c).getD (.agg #[.int .i64 0,.int .i64 0,.slice none 0 0]) = .agg #[.int .i64 zi,.int .i64 zd,.slice za zn zc]:=by
    unfold gOf;cases m.find? (fun y=>y.id == s.c) with
    | none=>exact⟨_,_,_,_,_,rfl⟩
    | some y=>exact⟨_,_,_,_,_,rfl⟩
   obtain⟨V,hV⟩ : ∃ V,V=wr.alloc (.cells #[.int .i64 s.c,.int .i64 s.g] 108):=⟨_,rfl⟩
   have aD:Below wr.heap.size wr V:=by rw[hV];exact(Below.refl _ wr).alloc (nlr _) _
   have dd:(Instr.lookup 181 (.map (some B)) (.int .i64 s.c) false).run Tryz.prog V.drew = .ok (.agg #[.int .i64 zi,.int .i64 zd,.slice za zn zc]) V.drew:=by
    have:=((HM.out.q8 HB.out).q8 (aD.trans (qb (Below.refl _ V) 1 |>.mono aD.size))).look Tryz.underlying3 Tryz.underlying181 (zeroCell V.drew) aq
    rwa [hz] at this
   have v0:V.cell? ⟨wr.heap.size,0,none⟩=some (.int .i64 s.c):=by rw[hV];exact qd wr _ _ (0,0) 0
   have v1:V.cell? ⟨wr.heap.size,1,none⟩=some (.int .i64 s.g):=by rw[hV];exact qd wr _ _ (0,0) 1
   have vT:V.cell? ⟨T,0,none⟩=some (.map (some B)):=Cx.q8 aD vX;have lZ:=qin zi zd za zn zc;have HZ:=lhd (aiq hs (aiq hz (aiq aD cr)));have Wh:=lhd bI;rw[bI] at k2 ⊢;clear h5 h6 e0 e1 hs hz aD cr vX;go_upto_region 5 with fail;rw[<-hV];clear hV
   go_still (by kernel_rfl)
   obtain⟨ys,dW,Nw,Ji⟩ : ∃ ys:List Sd,(∀ U,Below w.heap.size w U->Sl U 2 (.slice za zn zc) (cat Sd.enc ys))/\oF (qx m) x.cl k=ys.map (fun r=>(r.c,k,s.g*r.g))/\q99 ys:=by
    obtain⟨t1,t2⟩:=q97 m s.c;have eu:x.cl.s[k]? = some s:=HZ.out.1;cases hT:qx m s.c with
    | none =>
     rw[hT] at t1;have hg:gOf m s.c=none:=by
      cases hg:gOf m s.c with
      | none=>rfl
      | some v=>rw[hg] at t1;cases t1
     have h1:=HZ.out.2.1;rw[hg] at h1;have h2:(Value.agg #[.int .i64 0,.int .i64 0,.slice none 0 0]) = .agg #[.int .i64 zi,.int .i64 zd,.slice za zn zc]:=h1;obtain⟨rfl,rfl,rfl⟩ : none=za/\0=zn/\0=zc:=⟨by simp at h2;exact h2.2.2.1,by simp at h2;exact h2.2.2.2.1,by simp at h2;exact h2.2.2.2.2⟩
     refine⟨[],fun U _=>Sl.nil _ _,?_,by decide,fun r hr=>by cases hr⟩;unfold oF;rw[eu];dsimp only;rw[hT];rfl
    | some y =>
     obtain⟨z,bT,cp,kI,mh⟩:=t2 y hT;have h1:=HZ.out.2.1;rw[mh] at h1;have h2:(Value.agg #[.int .i64 z.id,.int .i64 z.dim,.slice z.a z.n z.c]) = .agg #[.int .i64 zi,.int .i64 zd,.slice za zn zc]:=h1;have h3:Value.slice z.a z.n z.c = .slice za zn zc:=by simp at h2 ⊢;exact h2.2.2
     refine⟨y.s,fun U hU=>?_,?_,HX.out.2.2.1 _ y hT⟩
     ·rw[<-h3,<-kI];exact(HS.out.2 z bT).q8 hU
     ·unfold oF;rw[eu];dsimp only;rw[hT]
   have HY:=lhd (aiq dW (aiq Nw Ji));have CK:ys.length=zn:=by
    obtain⟨_,_,h3,_⟩:=(dW _ HB.out).open;rw[qt Sd.qp] at h3;omega
   have Nx:zn<=64:=by have:=Ji.1;omega
   have Ny:=lhd CK;obtain⟨U,hU⟩ : ∃ U,U=V.drew:=⟨_,rfl⟩
   have cW:Below wr.heap.size wr U:=by rw[hU];exact HZ.out.2.2.1.trans ((qb (Below.refl _ V) 1).mono HZ.out.2.2.1.size)
   have Nz:=Cx.q8 cW k2;have CL:U.cell? ⟨wr.heap.size,1,none⟩=some (.int .i64 s.g):=by rw[hU];exact v1
   have N0:=mS.q8 cW;have Jj:=(mM.qb1 (Av':=fun b=>b=wr.heap.size) (fun b h=>.inl (by omega))).q8 cW;have N1:base<=U.heap.size:=gn fI cW.size;have EF:=lhd (HB.out.trans (cW.mono HB.out.size));have CM:=HZ.out.2.2.2.2;change Exit.then _ _ _ _ V.drew;rw[<-hU];obtain⟨bs,kG⟩ : ∃ bs,bs=wr.heap.size:=⟨_,rfl⟩
   rw[<-kG] at CL Jj ⊢;have S8:base<=bs:=by omega
   have SA:bs < U.heap.size:=World.block_lt_of_cell? U ⟨bs,1,none⟩ CL;have Wi:=lhd kG;clear hU kG dW Nw Ji CK cW v0 v1 vT mS mM k2 dd lZ;obtain⟨sg,xT⟩ : ∃ sg,sg=s.g:=⟨_,rfl⟩
   rw[<-xT] at CL CM;have CN:=lhd xT;clear xT;obtain⟨wo,db⟩ : ∃ wo,wo=wr:=⟨_,rfl⟩
   subst db;go_wp2_with fail;go_loopw [37] (fun i wr=>∃ jj:Nat,i = .int .i64 jj/\jj<=zn/\MpI wr BU (q1k (qx m) x.cl k++(oF (qx m) x.cl k).take jj).length (q0c (q1k (qx m) x.cl k++(oF (qx m) x.cl k).take jj))/\Rws wr base BM (fun b=>b=bs) (q1k (qx m) x.cl k++(oF (qx m) x.cl k).take jj).length (plO (q1k (qx m) x.cl k++(oF (qx m) x.cl k).take jj))/\Hid (Below w.heap.size w wr)/\wr.cell? ⟨bx,2,none⟩=some (.slice (some ad) x.n x.c)/\wr.cell? ⟨bs,1,none⟩=some (.int .i64 sg)/\base<=wr.heap.size) (fun i _=>zn - (vI i).toNat)
   case atStart=>exact⟨0,rfl,gp _,by simpa using N0,by simpa using Jj,EF.out,Nz,CL,N1⟩
   case round =>
    clear Nz CL N0 Jj N1;obtain⟨jj,rfl,Sp,mS,mM,aF,k2,s1,Jk⟩:=hrel;obtain⟨O,hO⟩ : ∃ O,O=q1k (qx m) x.cl k++(oF (qx m) x.cl k).take jj:=⟨_,rfl⟩
    rw[<-hO] at mS mM;have HO:=lhd hO;clear hO;by_cases dP:jj < zn
    ·obtain⟨r,hr⟩ : ∃ r,ys[jj]? = some r:=⟨_,g8 (by rw[Ny.out];exact dP)⟩
     obtain⟨_,_,_,h5,h6⟩:=(HY.out.1 wr aF.out).open;obtain⟨ay,rfl⟩ : ∃ ay,za=some ay:=by
      cases za with
      | none=>have:=h5 rfl;omega
      | some ay=>exact⟨ay,rfl⟩
     obtain⟨e0,e1⟩:=zw ys jj r hr;have r0:wr.cell? (ay.add (jj*2))=some (.int .i64 r.c):=h6 ay rfl _ _ e0;have r1:wr.cell? ⟨(ay.add (jj*2)).block,(ay.add (jj*2)).off+1,none⟩=some (.int .i64 r.g):=by rw[qi _ _ _ (by omega)];exact h6 ay rfl _ _ e1
     obtain⟨N2,fH⟩:=HY.out.2.2.2 r (gd hr);have zQ:=yx N2;obtain⟨rg,xU⟩ : ∃ rg,rg=r.g:=⟨_,rfl⟩
     rw[<-xU] at r1 fH;obtain⟨pr,lH⟩ : ∃ pr,pr=sg*rg:=⟨_,rfl⟩
     have mC : -1<=pr/\pr<=1:=by rw[lH];rcases CM with h | h <;> rcases fH with h' | h' <;> rw[h,h'] <;> decide
     have uI:wrap64 (sg*rg)=pr:=by rw[<-lH];exact IntWalk.wrap64_in _ (by omega)
     have N3:IntKind.i64.wrap (sg*rg)=pr:=(IntWalk.i64_left _).trans uI;have oE:O.length<=4096+64:=by
      rw[HO.out,gl,gh];have h1:=qb3 (x:=x.cl) HX.out.2.2.1 k;have h2:=qio (x:=x.cl) HX.out.2.2.1 k;omega
     have N4:∀ p∈O,-1<=p.2.2/\p.2.2<=1:=fun p hp=>by
      rw[HO.out] at hp;rcases gF.1 hp with hp | hp
      ·exact qlf HX.out.1 HX.out.2.2.1 k p hp
      ·exact qmm HX.out.1 HX.out.2.2.1 k p (gU hp)
     obtain⟨S,hS⟩ : ∃ S,S=q0c O r.c:=⟨_,rfl⟩
     have uJ : -(4160:Int)<=S/\S<=4160:=by rw[hS];have:=qcm O N4 r.c;omega
     have uK:wrap64 (S+pr)=S+pr:=IntWalk.wrap64_in _ (by omega);have N5:IntKind.i64.wrap (S+pr)=S+pr:=(IntWalk.i64_left _).trans uK;have N6:q1k (qx m) x.cl k++(oF (qx m) x.cl k).take (jj+1)=O++[(r.c,k,pr)]:=by
      rw[HO.out,gq,<-gz,HY.out.2.1,List.getElem?_map,hr];show _++[(r.c,k,s.g*r.g)]=_;rw[lH,CN.out,xU]
     obtain⟨R,hR⟩ : ∃ R,R=wr.alloc (.cells #[.int .i64 r.c,.int .i64 rg] 108):=⟨_,rfl⟩
     have uL:Below wr.heap.size wr R:=by rw[hR];exact(Below.refl _ wr).alloc (nlr _) _
     have SB:R.heap.size=wr.heap.size+1:=by rw[hR];simp
     have N7:R.cell? ⟨wr.heap.size,0,none⟩=some (.int .i64 r.c):=by rw[hR];exact qd wr _ _ (0,0) 0
     have Jl:(Instr.lookup 122 (.map (some BU)) (.int .i64 r.c) false).run Tryz.prog R = .ok (.int .i64 S) R:=by
      have:=(mS.q8 uL).look N2
      rwa [<-hS] at this
     rw[hR] at Jl;obtain⟨gS,xH,sK⟩:=mS.q8 uL;have N8:O.length < maxLen:=by unfold maxLen;omega
     have N9:R.cell? ⟨bs,1,none⟩=some (.int .i64 sg):=Cx.q8 uL s1;have NA:=Cx.q8 uL k2;obtain⟨g,vm,NB,a2,a3,Jm,a5,a6⟩:=mM;have xV:∀ c b,(vm c).ownBlock=some b->base<=b/\b < wr.heap.size:=fun c b h=>(Jm c).lt b h
     have NC:=NB.q8 uL;have ND:=fun c=>qa (Jm c) uL
     have HJ:=lhd (aiq hS (aiq sK (aiq N6 (aiq uL (aiq oE SB)))));have SC:bs < wr.heap.size:=World.block_lt_of_cell? wr ⟨bs,1,none⟩ s1;clear h5 h6 e0 e1 hr xU fH lH mC uI uK N4 hS uJ N6 uL sK mS NB Jm oE;go_wp2_with (first
      |(at_mapUpdate;rw[<-hR];clear hR;refine q1z rfl _ _ _ 122 rfl xH Tryz.underlying3 Tryz.underlying122 N8 r.c _ rfl rfl rfl zQ ?_)
      | fail)
     intro w3 iW eJ;have Jn:=eJ.size;have CO:MpI w3 BU (O.length+1) (pu (q0c O) r.c (S+pr)):=MpI.q6j HJ.out.2.1 iW;have Jo:w3.cell? ⟨wr.heap.size,0,none⟩=some (.int .i64 r.c):=ql eJ N7 (fun k e=>by cases e;show wr.heap.size≠BU;omega);have NF:w3.cell? ⟨bs,1,none⟩=some (.int .i64 sg):=ql eJ N9 (fun k e=>by cases e;show bs≠BU;omega);have NG:w3.cell? ⟨bx,2,none⟩=some (.slice (some ad) x.n x.c):=ql eJ NA (fun k e=>by cases e;show bx≠BU;omega);have aB:Below w.heap.size w w3:=(aF.out.trans (HJ.out.2.2.2.1.mono aF.out.size)).grown eJ (by have:=aF.out.size;rw[HJ.out.2.2.2.2.2];omega) (fun k e=>by cases e;omega);rw[HJ.out.2.2.2.2.2] at Jn;have a1:Mp Tryz.prog 3 w3 BM O.length g:=NC.kept eJ (fun e=>by cases e;omega);have a4:∀ c,w3.ownsRow base 3 1 (vm c) (plO O c).length (ints (plO O c)):=fun c=>(ND c).kept eJ (by
      cases ho:(vm c).ownBlock with
      | none=>exact .inl rfl
      | some b=>exact .inr fun e=>by have:=(xV c b ho).1;injection e with e;omega)
     obtain⟨vr,xW⟩ : ∃ vr,vr=vm r.c:=⟨_,rfl⟩
     have iK:∀ X:World,Mp Tryz.prog 3 X BM O.length g->(Instr.lookup 215 (.map (some BM)) (.int .i64 r.c) false).run Tryz.prog X = .ok vr X:=fun X hX=>by
      have:=hX.look Tryz.underlying3 Tryz.underlying215 (q42 X) zQ;rw[this,a2 r.c,xW]
     have ux:=iK w3.drew a1;have pt:=iK (w3.drew.alloc (.cells #[.int .i64 k] 3)) (Mp.alloc (w:=w3.drew) a1 _);have wI:=iK (w3.alloc (.cells #[.int .i64 k] 3)).drew (Mp.alloc a1 _);have au:w3.ownsRow base 3 1 vr (plO O r.c).length (ints (plO O r.c)):=by rw[xW];exact a4 r.c
     have Wj:(w3.drew.alloc (.cells #[.int .i64 k] 3)).cell? ⟨wr.heap.size,0,none⟩=some (.int .i64 r.c):=qk (w:=w3.drew) Jo _;have Wk:(w3.alloc (.cells #[.int .i64 k] 3)).cell? ⟨wr.heap.size,0,none⟩=some (.int .i64 r.c):=qk Jo _;obtain⟨i0,hi0,bL,bT,cp⟩:=info_parts Tryz.xg;have cD:(plO O r.c).length<=4160:=gn (qle O r.c) (by have:=HJ.out.2.2.2.2.1;omega);have Jp:O.length < maxLen:=N8;have HK:=lhd (aiq CO (aiq NF (aiq NG (aiq aB (aiq a1 (aiq a2 (aiq a3 (aiq a4 (aiq a5 (aiq a6 xW))))))))));have SD:∀ b,vr.ownBlock=some b->b≠BM:=fun b e=>(a6 r.c b (by rw[<-xW,e])).1
     have SF:∀ b,vr.ownBlock=some b->b≠bs:=fun b e=>(a6 r.c b (by rw[<-xW,e])).2
     have SG:∀ b,vr.ownBlock=some b->b < wr.heap.size:=fun b e=>(xV r.c b (by rw[<-xW,e])).2
     have SH:=lhd Jo;clear iW eJ CO NF NG aB a1 a2 a3 a4 a5 a6 xW iK N7 N9 NA NC ND xH xV;go_upto_region 9 with fail
     go_region_law (first
      |(refine step_append_lies _ rfl _ _ 22 rfl base 3 i0 _ 1 8 Tryz.underlying22 hi0 bL bT cp rfl (by decide) _ _ _ rfl ((World.ownsRow.drew au).alloc _) ⟨w3.heap.size,0,none⟩ 1 1 [.int .i64 k] rfl rfl (q7l w3.drew 3 [.int .i64 k]) (q5v _) (by decide) (by unfold maxLen;omega) (by omega) (by simp;omega) _ rfl ?_;intro g2 cg w6 aO ar cU e6;have o6:Mp Tryz.prog 3 w6 BM O.length g:=(Mp.alloc (w:=w3.drew) HK.out.2.2.2.2.1 _).kept ar (fun e=>SD BM e.symm rfl);have Wl:w6.cell? ⟨wr.heap.size,0,none⟩=some (.int .i64 r.c):=ql ar (qk (w:=w3.drew) SH.out _) (fun kk h=>by have:=SG kk h;show wr.heap.size≠kk;omega);have F6:=lhd (aiq aO (aiq ar (aiq cU e6)));obtain⟨w7,ll,fL,de⟩:=Mp.set o6 Tryz.underlying3 Tryz.underlying215 Jp zQ (.slice (some ⟨g2,0,none⟩) ((plO O r.c).length+1) cg);have F7:=lhd (aiq fL de);clear aO ar cU e6 fL de))
     all_goals
      go_wp2;go_roundw
      case measure=>simp[vI];omega
      case rel =>
       obtain⟨aO,er,cU,e6⟩:=F6.out;have ar:(w3.drew.alloc (.cells #[.int .i64 k] 3)).grownBy w6 vr.ownBlock:=er;obtain⟨fL,de⟩:=F7.out;obtain⟨b1,b2,b3,b4,b5,b6,b7,b8,b9,wE,rn⟩:=HK.out;have pP:Below w3.heap.size w3 (w3.drew.alloc (.cells #[.int .i64 k] 3)):=(qb (Below.refl _ w3) 1).alloc (nlr _) _;have rW:(w3.drew.alloc (.cells #[.int .i64 k] 3)).grownBy w6 (vm r.c).ownBlock:=by rw[<-rn];exact ar
       have af:∀ kk,vr.ownBlock=some kk->base<=kk:=fun kk h=>(au.lt kk h).1
       have SI:=ar.size;have NH:(w3.drew.alloc (.cells #[.int .i64 k] 3)).heap.size=w3.heap.size+1:=World.size_alloc _ _;have ny:=de.size;rw[NH] at SI;have Jq:∀ p:Addr,∀ u,p.block < base->p.block≠BM->w3.cell? p=some u->w7.cell? p=some u:=fun p u hp sH hu=>ql de (ql ar (Cx.q8 pP hu) (fun kk h=>by have:=af kk h;omega)) (fun kk e=>by cases e;exact sH)
       have Ck:Rws w7 base BM (fun b=>b=bs) (O.length+1) (q1r (plO O) r.c k):=Rws.app b5 b6 b7 b8 b9 wE (fun b h=>by subst h;omega) r.c k pP g2 cg _ rW aO (by rw[<-rn];rcases cU with h | h;exact .inl h;exact .inr h) fL de;have SJ:MpI w7 BU (O.length+1) (pu (q0c O) r.c (S+pr)):=by
        obtain⟨gg,c1,c2⟩:=b1;exact⟨gg,((c1.q8 pP).kept ar (fun e=>by have:=af BU e.symm;omega)).kept de (fun e=>by cases e;omega),c2⟩
       have iH:Below w.heap.size w w7:=((b4.trans (pP.mono b4.size)).grown ar (by have:=b4.size;rw[NH];omega) (fun kk h=>by have:=af kk h;omega)).grown de (by have:=b4.size;omega) (fun kk e=>by cases e;omega);have e1:=HJ.out.2.2.1;refine⟨jj+1,qh (by omega),by omega,?_,?_,iH,Jq ⟨bx,2,none⟩ _ (by show bx < base;omega) (by show bx≠BM;omega) b3,?_,by omega⟩
       ·rw[e1,qfq,gl,<-HJ.out.1];exact SJ
       ·rw[e1,qim,gl];exact Ck
       ·exact ql de (ql ar (Cx.q8 pP b2) (fun kk h=>fun e=>SF kk h e.symm)) (fun kk e=>by cases e;show bs≠BM;omega)
    ·have cX:(oF (qx m) x.cl k).take jj=oF (qx m) x.cl k:=ge (by rw[HY.out.2.1,gm,Ny.out];omega);have NI:O=q1k (qx m) x.cl (k+1):=by rw[HO.out,cX,q80]
     rw[NI] at mS mM;have Fb:=mM.qb1 (Av':=fun _=>False) (fun b h=>h.elim);have HJ:=lhd (aiq mS Fb);clear cX NI mS mM Fb;go_wp2_with fail;go_roundw
     case measure=>simp[vI];omega
     case rel=>exact⟨k+1,qh (by omega),by omega,HJ.out.1,HJ.out.2,aF.out,k2,Jk⟩
  ·have bJ:q1k (qx m) x.cl k=occ (qx m) x.cl:=by
    rw[<-qb2]
    congr 1
    have:=HX.out.2.2.2;show k=x.s.length;omega
   rw[bJ] at mS mM;clear bJ;have Wm:BU < wr.heap.size:=mS.lt;obtain⟨gS,xH,sK⟩:=mS;obtain⟨D,ah,hD⟩:=xH;have xE:=int_keyed (P:=Tryz.prog) (k:=3) Tryz.underlying3;obtain⟨o,ho⟩ : ∃ o,o=occ (qx m) x.cl:=⟨_,rfl⟩
   rw[<-ho] at sK ah mM;have HO:=lhd ho;have EU:=lhd sK;obtain⟨no,dA⟩ : ∃ no,no=o.length:=⟨_,rfl⟩
   rw[<-dA] at ah mM;have Fc:=lhd dA;have SK:no<=4096:=by
    rw[dA,ho,<-qb2];have:=qb3 (x:=x.cl) HX.out.2.2.1 x.cl.s.length;have:x.cl.s.length<=64:=HX.out.1.1;omega
   clear ho sK dA;go_wp2_with (first
    |(at_range;refine wpList_range_own _ rfl _ 122 rfl 3 3 xE Tryz.underlying122 hld BU no D rfl ah ?_;intro wq lD rF l5)
    | go_in)
   go_frame
   obtain⟨r,hr⟩ : ∃ r,r=wr.heap.size:=⟨_,rfl⟩
   rw[<-hr] at lD ⊢;have xA:base<=r:=by omega
   have nH:Below wr.heap.size wr wq:=⟨rF.os,rF.tape,rF.output,rF.size,fun b hb=>rF.block b hb (by simp)⟩
   have SL:=(mM.q8 nH).qb1 (Av':=fun _=>False) (fun b h=>h.elim);have NJ:Rws wq base BM (fun b=>b=r) no (plO o):=(mM.qb1 (Av':=fun b=>b=r) (fun b h=>.inl (by omega))).q8 nH;have NK:=Cx.q8 nH k2;have SM:=lhd (HB.out.trans (nH.mono HB.out.size));have NL:Hid (Hg D gS):=hD;have NM:base<=wq.heap.size:=gn fI nH.size;clear hr mM k2 nH ah hD rF l5 SL HB;go_loopw [12] (fun _ wr=>∃ (left:Lit->Bool) (kK:Nat),wr.ranges Tryz.prog 3 hld BU r no D left kK/\Hid (∀ c,(gS c).isSome=true->left (.int .i64 c)=false->q0c o c=0)/\Rws wr base BM (fun b=>b=r) no (plO o)/\Hid (Below w.heap.size w wr)/\wr.cell? ⟨bx,2,none⟩=some (.slice x.a x.n x.c)/\base<=wr.heap.size) (fun _ wr=>wr.rangeLeft BU r)
   case atStart=>exact⟨_,_,lD,(show Hid _ from fun c hc hl=>by have:=(NL.out c).1;rw[hl,hc] at this;cases this),NJ,SM.out,NK,NM⟩
   case round =>
    clear lD NJ NK NM;obtain⟨left,kK,fH,HF,mM,HB,k2,fI⟩:=hrel;have Ao:=lhd fH;go_wp2_with (first
     |(at_next;refine wpList_next_ranges _ rfl _ rfl 3 xE hld (Value.int .i64) (fun v:Value=>v) (fun key kl aq=>by obtain⟨x,rfl,_⟩:=Maps.keyOf_int_inv Tryz.underlying3 aq;exact⟨x,rfl⟩) (fun v y _=>⟨v,rfl⟩) BU r no D left kK rfl fH ?_ ?_)
     | go_in)
    ·intro eZ dO;have aH:∀ c,q0c o c=0:=fun c=>by
      cases hg:gS c with
      | some v=>exact HF.out c (by rw[hg];rfl) (dO _)
      | none =>
       have:=EU.out c;rw[hg] at this;have h2:Value.int .i64 0 = .int .i64 (q0c o c):=this;injection h2 with _ h2
       exact h2.symm
     have iI:=lhd aH;have Fb:=mM.qb1 (Av':=fun _=>False) (fun b h=>h.elim);clear eZ dO aH mM fH;obtain⟨g,vm,a1,a2,a3,a4,a5,a6⟩:=Fb;obtain⟨W4,kL⟩ : ∃ W4,W4=(wr.alloc (.map #[] 0)).alloc (.cells #[.map (some wr.heap.size)] 215):=⟨_,rfl⟩
     have bU:Below wr.heap.size wr W4:=by rw[kL];exact((Below.refl _ wr).alloc (nlr _) _).alloc (by simp) _
     have mh:W4.heap.size=wr.heap.size+2:=by rw[kL];simp
     have j0:W4.cell? ⟨wr.heap.size+1,0,none⟩=some (.map (some wr.heap.size)):=by
      rw[kL];have:=qd (wr.alloc (.map #[] 0)) #[.map (some wr.heap.size)] 215 (0,0) 0;rw[World.size_alloc] at this;exact this
     have mJ:Rws W4 (wr.heap.size+3) wr.heap.size (fun _=>False) 0 (fun _=>[]):=by
      rw[kL];exact(Rws.made wr (wr.heap.size+3) (fun _=>False)).q8 ((Below.refl _ _).alloc (nlr _) _)
     obtain⟨D4,pQ,NN⟩:=a1.q8 bU;have Jr:BM < wr.heap.size:=a1.lt;have HA:=lhd (aiq a2 (aiq a3 (aiq a4 (aiq a5 (aiq a6 bU)))));have NO:=Cx.q8 bU k2;have Cj:=lhd (HB.out.trans (bU.mono HB.out.size));have SN:=lhd mh;clear a1 a2 a3 a4 a5 a6 bU k2 HB mh;go_wp2_with (first
      |(at_range;rw[<-kL];clear kL;refine wpList_range_own _ rfl _ 215 rfl 3 22 xE Tryz.underlying215 hld BM no D4 rfl pQ ?_;intro Au xX xY fU)
      | go_in)
     try go_frame
     have mh:=SN.out;obtain⟨BJ,Js⟩ : ∃ b,b=wr.heap.size:=⟨_,rfl⟩
     obtain⟨pJ,NP⟩ : ∃ b,b=wr.heap.size+1:=⟨_,rfl⟩
     obtain⟨r4,eo⟩ : ∃ b,b=W4.heap.size:=⟨_,rfl⟩
     obtain⟨aI,pR⟩ : ∃ b,b=wr.heap.size+3:=⟨_,rfl⟩
     rw[<-pR] at mJ;rw[<-NP] at j0 ⊢;rw[<-Js] at j0 mJ;rw[<-eo] at xX ⊢;have rG:Gs (fun _=>False) W4 Au:=(Gs.refl _ W4).grown xY (fun k e=>by cases e);have nI:Below W4.heap.size W4 Au:=⟨xY.os,xY.tape,xY.output,xY.size,fun b hb=>xY.block b hb (by simp)⟩
     have NQ:=mJ.q8 nI;have NR:=Cx.q8 nI j0;have SO:=Cx.q8 nI NO;have nK:=lhd (Cj.out.trans (nI.mono Cj.out.size));have uM:base<=BJ/\BJ < pJ/\pJ < r4/\r4 < aI/\aI<=Au.heap.size/\BM < BJ:=by omega
     have Jt:Hid (Hg D4 g):=NN;have fV:=lhd (aiq HA.out (aiq nI (aiq Js eo)));have SP:=pQ.size_le;clear eo Js NP pR mJ j0 NO pQ NN xY fU mh HA Cj nI rG Jr;go_loopw [15] (fun _ wr=>∃ (left:Lit->Bool) (kK nn:Nat) (jl:Int->List Int),wr.ranges Tryz.prog 3 hld BM r4 no D4 left kK/\Rws wr aI BJ (fun _=>False) nn jl/\nn+2*kK<=2*no/\Hid (∀ i,(jl i).length<=nn) ∧
      Hid (∀ i k,k∈jl i↔∃ c,(g c).isSome=true/\left (.int .i64 c)=false/\(plO o c=[i,k]\/plO o c=[k,i]))/\Hid (∀ c,(g c).isSome=true->left (.int .i64 c)=false->(plO o c).length=2)/\Gs (fun b=>b=BJ\/b=r4\/aI<=b) Au wr) (fun _ wr=>wr.rangeLeft BM r4)
     case atStart =>
      refine⟨_,_,0,fun _=>[],xX,NQ,by omega,(show Hid _ from fun i=>nlr _),(show Hid _ from fun i k=>⟨(fun h=>by cases h),fun ⟨c,h1,h2,_⟩=>?_⟩),(show Hid _ from fun c h1 h2=>?_),Gs.refl _ _⟩
      ·have:=(Jt.out c).1;rw[h1,h2] at this;cases this
      ·have:=(Jt.out c).1;rw[h1,h2] at this;cases this
     case round =>
      clear xX NQ;obtain⟨left,kK,nn,jl,fH,mJ,jM,CP,CQ,CR,hG⟩:=hrel;have Ju:=lhd fH;go_wp2_with (first
       |(at_next;refine wpList_next_ranges _ rfl _ rfl 3 xE hld (Value.int .i64) (fun v:Value=>v) (fun key kl aq=>by obtain⟨x,rfl,_⟩:=Maps.keyOf_int_inv Tryz.underlying3 aq;exact⟨x,rfl⟩) (fun v y _=>⟨v,rfl⟩) BM r4 no D4 left kK rfl fH ?_ ?_)
       | go_in)
      ·intro eZ dO;go_wp2_with fail;obtain⟨W5,xZ⟩ : ∃ W,W=((wr.alloc (.map #[] 0)).alloc (.cells #[.map (some wr.heap.size)] 65)).alloc (.cells #[.nilFunc] 216):=⟨_,rfl⟩
       rw[<-xZ];have SQ:aI<=wr.heap.size:=gn uM.2.2.2.2.1 hG.size;have k1:W5.cell? ⟨wr.heap.size+1,0,none⟩=some (.map (some wr.heap.size)):=by
        rw[xZ];have:=qd (wr.alloc (.map #[] 0)) #[.map (some wr.heap.size)] 65 (0,0) 0;simp only [World.size_alloc] at this;exact qk this _
       have k3:W5.cell? ⟨wr.heap.size+1+1,0,none⟩=some .nilFunc:=by
        rw[xZ];have:=qd ((wr.alloc (.map #[] 0)).alloc (.cells #[.map (some wr.heap.size)] 65)) #[.nilFunc] 216 (0,0) 0;simp only [World.size_alloc] at this;exact this
       have f3:W5.frozen? ⟨wr.heap.size+1+1,0,none⟩=false:=by
        rw[xZ];have:=jz (heap_alloc_new ((wr.alloc (.map #[] 0)).alloc (.cells #[.map (some wr.heap.size)] 65)) (.cells #[.nilFunc] 216)) 0;simp only [World.size_alloc] at this;exact this
       have kS:Mp Tryz.prog 3 W5 wr.heap.size 0 (sG (fun _=>false)):=by
        rw[xZ];have h:Mp Tryz.prog 3 (wr.alloc (.map #[] 0)) wr.heap.size 0 (sG (fun _=>false)):=by
         have:=Mp.made (P:=Tryz.prog) (k:=3) wr;have e:(fun _=>none)=sG (fun _=>false):=by funext c;simp[sG]
         rw[<-e];exact this
        exact Mp.alloc (Mp.alloc h _) _
       have aT:Below wr.heap.size wr W5:=by
        rw[xZ];exact(((Below.refl _ wr).alloc (nlr _) _).alloc (by simp) _).alloc (by simp;omega) _
       have NS:W5.cell? ⟨pJ,0,none⟩=some (.map (some BJ)):=Cx.q8 aT (hG.cell (show ¬ (pJ=BJ\/pJ=r4\/aI<=pJ) from by omega) NR);have NT:W5.cell? ⟨bx,2,none⟩=some (.slice x.a x.n x.c):=Cx.q8 aT (hG.cell (show ¬ (bx=BJ\/bx=r4\/aI<=bx) from by omega) SO);obtain⟨SE,C9⟩ : ∃ p,p=wr.heap.size:=⟨_,rfl⟩
       obtain⟨p1,mP⟩ : ∃ p,p=wr.heap.size+1:=⟨_,rfl⟩
       obtain⟨p3,C8⟩ : ∃ p,p=wr.heap.size+1+1:=⟨_,rfl⟩
       rw[<-C8] at k3 f3 ⊢;rw[<-mP] at k1 ⊢;rw[<-C9] at k1 kS;have ak:wr.heap.size<=SE/\SE < p1/\p1 < p3/\pJ < SE/\bx < SE:=by omega
       obtain⟨fv,xJ⟩ : ∃ fv,fv=Value.func (.func 197) #[] #[.pointer (some ⟨p1,0,none⟩),.pointer (some ⟨pJ,0,none⟩),.pointer (some ⟨p3,0,none⟩)]:=⟨_,rfl⟩
       have aS:(store ⟨p3,0,none⟩ (Value.func (.func 197) #[] #[.pointer (some ⟨p1,0,none⟩),.pointer (some ⟨pJ,0,none⟩),.pointer (some ⟨p3,0,none⟩)])).run Tryz.prog W5 = .ok () (W5.setCell ⟨p3,0,none⟩ fv):=by
        rw[xJ,run_store _ _ _ _ _ rfl,k3,f3];rfl
       obtain⟨V,hV⟩ : ∃ V,V=W5.setCell ⟨p3,0,none⟩ fv:=⟨_,rfl⟩
       rw[<-hV] at aS;have v1:V.cell? ⟨p1,0,none⟩=some (.map (some SE)):=by rw[hV];exact xe k1 (by show p1≠p3;omega)
       have v2:V.cell? ⟨pJ,0,none⟩=some (.map (some BJ)):=by rw[hV];exact xe NS (by show pJ≠p3;omega)
       have vx:V.cell? ⟨bx,2,none⟩=some (.slice x.a x.n x.c):=by rw[hV];exact xe NT (by show bx≠p3;omega)
       have v3:V.cell? ⟨p3,0,none⟩=some (Value.func (.func 197) #[] #[.pointer (some ⟨p1,0,none⟩),.pointer (some ⟨pJ,0,none⟩),.pointer (some ⟨p3,0,none⟩)]):=by
        rw[hV,xJ];exact World.cell?_setCell_same' _ _ _ (by rw[k3];rfl)
       have aD:Below wr.heap.size wr V:=by rw[hV];exact aT.setCell (show wr.heap.size<=p3 by omega) _
       have CA:Mp Tryz.prog 3 V SE 0 (sG (fun _=>false)):=by rw[hV];exact kS.setCell (by show SE≠p3;omega) _
       have iJ:Vj wr V BJ SE p1 pJ p3:=⟨aD,by omega,⟨by omega,by omega,by omega⟩,v1,v2,v3⟩
       have aQ:Below w.heap.size w wr:=nK.out.trans (hG.below nK.out.size (fun b hb=>by have:=nK.out;rcases hb with h | h | h <;> omega));obtain⟨gj,vj,a1,a2,a3,a4,a5,a6⟩:=mJ;obtain⟨⟨Jv,s7⟩,cG,hT,dx⟩:=HX.out;have Aw:∀ i k,k∈jl i↔∃ c,plO o c=[i,k]\/plO o c=[k,i]:=fun i k=>by
        rw[CQ.out i k];constructor
        ·rintro ⟨c,_,_,h⟩;exact⟨c,h⟩
        ·rintro ⟨c,h⟩;exact⟨c,(fV.out.1.2.1 c).2 (by rcases h with h | h <;> rw[h] <;> simp),dO _,h⟩
       have CS:∀ c,plO o c≠[]->(plO o c).length=2:=fun c h=>CR.out c ((fV.out.1.2.1 c).2 h) (dO _)
       have ae:=qld a1 a2 (fun i=>Sl.qc (a4 i)) (fun i=>by have:=CP.out i;omega) ((List.range x.s.length).map fun k:Nat=>(k:Int)) (fun i _ k hk=>by
         obtain⟨c,h⟩:=(Aw i k).1 hk;obtain⟨k',rfl,rh⟩:=q9a (T:=qx m) (x:=x.cl) (c:=c) (i:=k) (by rw[<-HO.out];rcases h with h | h <;> rw[h] <;> simp);exact go.2 ⟨k',gy.2 rh,rfl⟩)
        (fun i hi=>by obtain⟨k',rh,rfl⟩:=go.1 hi;have:=gy.1 rh;unfold I64;omega) (-1) (fun h=>by obtain⟨k',_,e⟩:=go.1 h;omega)
        SE p1 pJ p3 _ 0 0 (fun _=>false) V (nlr _) iJ CA (go.2 ⟨0,gy.2 cG,rfl⟩) (by
         have h:mu ((List.range x.s.length).map fun k:Nat=>(k:Int)) (fun _=>false)<=((List.range x.s.length).map fun k:Nat=>(k:Int)).length:=bg _ _;have h2:((List.range x.s.length).map fun k:Nat=>(k:Int)).length=x.s.length:=by simp
         omega)
       have HC:=lhd ae;have HV:=lhd (aiq aQ (aiq aD (aiq ak (aiq Aw (aiq CS (aiq cG (aiq dx iJ)))))));have SR:=lhd vx;clear xZ mP C8 C9 k1 k3 f3 kS aT NS NT ae iJ CA aD hV xJ aQ a1 a2 a3 a4 a5 a6 Jv s7 cG hT dx Aw CS v1 v2 vx;rw[aS];go_wp2_with fail;refine HC.out.mono ?_;rintro e w5 ⟨rfl,Aq,k',cQ,NU,AS,mO,rh,zW⟩;obtain⟨aQ,aD,vM,Aw,CS,cG,dx,iJ⟩:=HV.out;obtain⟨L,NV,CT,hlen⟩:=qo5 NU;have uN:=iJ.gs Aq;have y1:w5.cell? ⟨p1,0,none⟩=some (.map (some SE)):=uN.c1;have y2:w5.cell? ⟨bx,2,none⟩=some (.slice x.a x.n x.c):=Aq.cell (show ¬ (bx=SE) from by omega) SR.out;have hR:=qcn (T:=qx m) (x:=x.cl) HO.out iI.out CS cG (S:=fun d=>cQ d=true) NV CT mO (J:=fun a b=>b∈jl a) Aw (fun d hd=>ka.reach (fun _ h=>by cases h) AS mO hd)
        (fun d hd=>(zW d hd).elim (fun h=>by cases h) id)
       have yA:Below w.heap.size w w5:=aQ.trans ((aD.mono aQ.size).trans (Aq.below (gn aQ.size aD.size) (fun b hb=>by rw[hb];have:=aQ.size;omega)));have nN:=lhd (aiq hR (aiq yA dx));clear NU AS mO rh zW iJ uN NV CT Aw CS cG hR yA aQ aD Aq;by_cases rf:L.length=x.n
       ·have eR:((L.length:Int) != (x.n:Int))=false:=by rw[rf];simp
        have wO:=lhd rf;clear rf dx;go_wp2_with fail;go_ret;refine⟨?_,nN.out.2.1⟩;rw[nN.out.1.trans (if_pos (wO.out.trans nN.out.2.2.symm))];rfl
       ·have eR:((L.length:Int) != (x.n:Int))=true:=by simp;omega
        have wO:=lhd rf;clear rf dx;go_wp2_with fail;go_ret;refine⟨?_,nN.out.2.1⟩;rw[nN.out.1.trans (if_neg (fun e=>wO.out (e.trans nN.out.2.2)))];rfl
      ·intro nx cv kl y1 y2 w2 sI aq dd hv bK jP hlt cA ep kM;obtain⟨x',oB,rfl,Ap⟩:=Maps.keyOf_int_inv Tryz.underlying3 aq;have Cy:nx=x':=by injection oB
       subst Cy;have hv2:y1 = .held cv:=by
        have:hld cv=some (.held cv,[]):=rfl;rw[this] at hv;injection hv with hv;injection hv with hv _;exact hv.symm
       subst hv2;have jQ:=Jt.out.qh3 bK;have AN:cv=vm nx:=by have:=fV.out.1.1 nx;rw[jQ] at this;exact this
       subst AN;have cJ:Gs (fun b=>b=BJ\/b=r4\/aI<=b) Au w2:=hG.grown cA (fun k e=>by cases e;exact .inr (.inr (.inl rfl)));have au:=fV.out.1.2.2.1 nx;have nf:=fun b (h:(vm nx).ownBlock=some b)=>(au.lt b h).2
       have dh:Sl w2 1 (vm nx) (ints (plO o nx)):=cJ.sl (((Sl.qc au).q8 fV.out.1.2.2.2.2.2).q8 fV.out.2.1) (fun ad n c e ak=>by
        have hlt:ad.block < BJ:=by rw[fV.out.2.2.1];exact qe6 (Sl.qc au) e ak
        intro h;rcases h with h | h | h <;> omega)
       have ak:plO o nx≠[]:=(fV.out.1.2.1 nx).1 (by rw[jQ];rfl);obtain⟨va,vn,vc,sJ⟩:=qg dh;have CU:∀ ad,va=some ad->ad.block < BJ:=fun ad e=>by
        rw[fV.out.2.2.1];exact qe6 (Sl.qc au) (by rw[sJ,e]) (by
         obtain⟨y,ys,hy⟩:=List.exists_cons_of_ne_nil ak;rw[hy];exact fun h=>by cases h)
       rw[sJ] at dh kM;have rV:(plO o nx).length=vn:=by
        obtain⟨_,_,h3,_⟩:=dh.open;rw[xl] at h3;omega
       have Cz:(Instr.entry (.pointer (some ⟨r4,0,none⟩))).run Tryz.prog w2 = .ok (.tuple #[.int .i64 nx,.slice va vn vc]) w2:=kM;have SS:Rws w2 aI BJ (fun _=>False) nn jl:=mJ.grown cA (by omega) (by omega);have bV:=lhd (aiq jP (aiq hlt (aiq jQ (aiq dd (aiq rV dh)))));clear aq dd hv bK jP hlt jQ oB Ap kM fH au nf ak sJ cA ep dh mJ hG;by_cases hv2:vn=2
       ·subst hv2;obtain⟨aa,bb,cy⟩ : ∃ aa bb,plO o nx=[aa,bb]:=by
         have h:=bV.out.2.2.2.2.1
         match cD:plO o nx,h with
         | [a,b],_=>exact⟨a,b,rfl⟩
        obtain⟨_,_,_,h5,h6⟩:=bV.out.2.2.2.2.2.open;obtain⟨ad,rfl⟩ : ∃ ad,va=some ad:=by
         cases va with
         | none=>have:=h5 rfl;omega
         | some ad=>exact⟨ad,rfl⟩
        have SU:w2.cell? (ad.add 0)=some (.int .i64 aa):=h6 ad rfl 0 _ (by rw[cy];rfl);have l1:w2.cell? ⟨ad.block,ad.off+1,none⟩=some (.int .i64 bb):=h6 ad rfl 1 _ (by rw[cy];rfl);clear h5 h6;go_upto_region 23 with fail;have SV:ad.block < BJ:=CU ad rfl;have l0:w2.cell? ad=some (.int .i64 aa):=by have:=SU;rwa [show ad.add 0=ad from by unfold Addr.add;rfl] at this
        have j2:w2.cell? ⟨pJ,0,none⟩=some (.map (some BJ)):=cJ.cell (show ¬ (pJ=BJ\/pJ=r4\/aI<=pJ) from by omega) NR;have SW:I64 aa:=(qeb HO.out HX.out.1.1 (by rw[cy];simp))
        have SX:I64 bb:=(qeb HO.out HX.out.1.1 (by rw[cy];simp))
        have CV:=yx SW;have CW:=yx SX;have nO:=CP.out;have SY:nn+2<=2*no:=by have:=bV.out.2.1;omega
        have Jw:aI<=w2.heap.size:=gn uM.2.2.2.2.1 cJ.size;obtain⟨i0,hi0,bL,bT,cp⟩:=info_parts Tryz.xg;obtain⟨gA,NW,Fe,Jy,NX,Jz,NY,NZ⟩:=SS;obtain⟨Ff,sN⟩ : ∃ vr,vr=NW aa:=⟨_,rfl⟩
        have iK:∀ X:World,Mp Tryz.prog 3 X BJ (nn) gA->(Instr.lookup 215 (.map (some BJ)) (.int .i64 aa) false).run Tryz.prog X = .ok Ff X:=fun X hX=>by
         have:=hX.look Tryz.underlying3 Tryz.underlying215 (q42 X) CV;rw[this,Jy aa,sN]
        have SZ:=iK w2.drew Fe;have Ta:=iK (w2.drew.alloc (.cells #[.int .i64 bb] 3)) (Mp.alloc (w:=w2.drew) Fe _);have Tb:=iK (w2.alloc (.cells #[.int .i64 bb] 3)).drew (Mp.alloc Fe _);have uO:w2.ownsRow aI 3 1 Ff (jl aa).length (ints (jl aa)):=by rw[sN];exact Jz aa
        have pS:∀ b,Ff.ownBlock=some b->aI<=b:=fun b h=>(uO.lt b h).1
        have Wn:(w2.alloc (.cells #[.int .i64 bb] 3)).cell? ad=some (.int .i64 aa):=qk l0 _;have Wo:(w2.alloc (.cells #[.int .i64 bb] 3)).cell? ⟨ad.block,ad.off+1,none⟩=some (.int .i64 bb):=qk l1 _;have Wp:(w2.alloc (.cells #[.int .i64 bb] 3)).cell? ⟨pJ,0,none⟩=some (.map (some BJ)):=qk j2 _;have Tc:(jl aa).length<=8192:=by have:=nO aa;omega
        have J0:nn < maxLen:=by unfold maxLen;omega
        have CX:=lhd (aiq Fe (aiq Jy (aiq NX (aiq Jz (aiq NY (aiq NZ (aiq sN (aiq l0 (aiq l1 j2)))))))));clear Jy NX Jz NY NZ sN iK
        go_cut [15] from 81 to 94 (fun p wx=>p=Value.slice (some ad) 2 vc/\Gs (fun b=>b=BJ\/aI<=b) w2 wx/\Rws wx aI BJ (fun _=>False) (nn+1) (q1r jl aa bb))
        case first =>
         rename_i Jx Kx J1 J2
         go_region_held_law (fun w'=>w'.cell? ⟨pJ,0,none⟩=some (.map (some BJ))/\w'.cell? ad=some (.int .i64 aa)/\w'.cell? ⟨ad.block,ad.off+1,none⟩=some (.int .i64 bb)) (first | exact⟨j2,l0,l1⟩ | exact⟨qk (w:=w2.drew) j2 _,qk (w:=w2.drew) l0 _,qk (w:=w2.drew) l1 _⟩ | exact⟨rj,r0,r1⟩ | exact⟨sj,s0,s1⟩) (first
          |(refine step_append_lies _ rfl _ _ 22 rfl aI 3 i0 _ 1 8 Tryz.underlying22 hi0 bL bT cp rfl (by decide) _ _ _ rfl ((World.ownsRow.drew uO).alloc _) ⟨w2.heap.size,0,none⟩ 1 1 [.int .i64 bb] rfl rfl (q7l w2.drew 3 [.int .i64 bb]) (q5v _) (by decide) (by unfold maxLen;omega) (by omega) (by simp;omega) _ rfl ?_;intro g2 cg w6 aO ar cU e6;have o6:Mp Tryz.prog 3 w6 BJ (nn) gA:=(Mp.alloc (w:=w2.drew) CX.out.1 _).kept ar (fun e=>by have:=pS BJ e.symm;omega);have r0:w6.cell? ad=some (.int .i64 aa):=ql ar (qk (w:=w2.drew) CX.out.2.2.2.2.2.2.2.1 _) (fun kk h=>by have:=pS kk h;omega);have r1:w6.cell? ⟨ad.block,ad.off+1,none⟩=some (.int .i64 bb):=ql ar (qk (w:=w2.drew) CX.out.2.2.2.2.2.2.2.2.1 _) (fun kk h=>by have:=pS kk h;show ad.block≠kk;omega);have rj:w6.cell? ⟨pJ,0,none⟩=some (.map (some BJ)):=ql ar (qk (w:=w2.drew) CX.out.2.2.2.2.2.2.2.2.2 _) (fun kk h=>by have:=pS kk h;show pJ≠kk;omega);have F6:=lhd (aiq aO (aiq ar (aiq cU e6)));obtain⟨w7,ll,fL,de⟩:=Mp.set o6 Tryz.underlying3 Tryz.underlying215 J0 CV (.slice (some ⟨g2,0,none⟩) ((jl aa).length+1) cg);have s0:w7.cell? ad=some (.int .i64 aa):=ql de r0 (fun kk h=>by cases h;show ad.block≠BJ;omega);have s1:w7.cell? ⟨ad.block,ad.off+1,none⟩=some (.int .i64 bb):=ql de r1 (fun kk h=>by cases h;show ad.block≠BJ;omega);have sj:w7.cell? ⟨pJ,0,none⟩=some (.map (some BJ)):=ql de rj (fun kk h=>by cases h;show pJ≠BJ;omega);have F7:=lhd (aiq fL de);clear aO ar cU e6 fL de))
         all_goals
          ((try go_step);refine J2 _ _ (Met.intro ?_);refine J1 _ _ ?_;(repeat apply Exists.intro);refine⟨?rel,rfl⟩)
          case rel =>
           obtain⟨aO,er,cU,e6⟩:=F6.out;have ar:(w2.drew.alloc (.cells #[.int .i64 bb] 3)).grownBy w6 Ff.ownBlock:=er;obtain⟨fL,de⟩:=F7.out;obtain⟨b5,b6,b7,b8,b9,wE,rn,_⟩:=CX.out;have pP:Below w2.heap.size w2 (w2.drew.alloc (.cells #[.int .i64 bb] 3)):=(qb (Below.refl _ w2) 1).alloc (nlr _) _;have rW:(w2.drew.alloc (.cells #[.int .i64 bb] 3)).grownBy w6 (NW aa).ownBlock:=by rw[<-rn];exact ar
           exact⟨rfl,((Gs.xh pP).grown ar (fun kk h=>.inr (.inr (pS kk h)))).grown de (fun kk e=>by cases e;exact .inr (.inl rfl)),Rws.app b5 b6 b7 b8 b9 wE (fun b h=>h.elim) aa bb pP g2 cg _ rW aO (by rw[<-rn];rcases cU with h | h;exact .inl h;exact .inr h) fL de⟩
        case rest =>
         obtain⟨rfl,Ax,Td⟩:=hcut;go_upto_region 24 with fail;have ew:¬ (ad.block=BJ\/aI<=ad.block):=by omega
         have Te:¬ (pJ=BJ\/aI<=pJ):=by omega
         have Oa:wc.cell? ad=some (.int .i64 aa):=Ax.cell ew l0;have Ob:wc.cell? ⟨ad.block,ad.off+1,none⟩=some (.int .i64 bb):=Ax.cell (show ¬ (ad.block=BJ\/aI<=ad.block) from ew) l1;have Oc:wc.cell? ⟨pJ,0,none⟩=some (.map (some BJ)):=Ax.cell (show ¬ (pJ=BJ\/aI<=pJ) from Te) j2;have uP:∀ i,(q1r jl aa bb i).length<=nn+1:=qb4 nO aa bb;have Tf:aI<=wc.heap.size:=gn Jw Ax.size;clear l0 l1 j2;have l0:=Oa;have l1:=Ob;have j2:=Oc;clear Oa Ob Oc nO;have nO:=uP;clear uP;obtain⟨gB,Od,Fg,J3,Oe,J4,Of,Og⟩:=Td;obtain⟨Fh,sO⟩ : ∃ vr,vr=Od bb:=⟨_,rfl⟩
         have sP:∀ X:World,Mp Tryz.prog 3 X BJ ((nn+1)) gB->(Instr.lookup 215 (.map (some BJ)) (.int .i64 bb) false).run Tryz.prog X = .ok Fh X:=fun X hX=>by
          have:=hX.look Tryz.underlying3 Tryz.underlying215 (q42 X) CW;rw[this,J3 bb,sO]
         have Tg:=sP wc.drew Fg;have Th:=sP (wc.drew.alloc (.cells #[.int .i64 aa] 3)) (Mp.alloc (w:=wc.drew) Fg _);have Ti:=sP (wc.alloc (.cells #[.int .i64 aa] 3)).drew (Mp.alloc Fg _);have uQ:wc.ownsRow aI 3 1 Fh ((q1r jl aa bb) bb).length (ints ((q1r jl aa bb) bb)):=by rw[sO];exact J4 bb
         have pT:∀ b,Fh.ownBlock=some b->aI<=b:=fun b h=>(uQ.lt b h).1
         have Wq:(wc.alloc (.cells #[.int .i64 aa] 3)).cell? ad=some (.int .i64 aa):=qk l0 _;have Wr:(wc.alloc (.cells #[.int .i64 aa] 3)).cell? ⟨ad.block,ad.off+1,none⟩=some (.int .i64 bb):=qk l1 _;have Ws:(wc.alloc (.cells #[.int .i64 aa] 3)).cell? ⟨pJ,0,none⟩=some (.map (some BJ)):=qk j2 _;have Tj:((q1r jl aa bb) bb).length<=8192:=by have:=nO bb;omega
         have J5:(nn+1) < maxLen:=by unfold maxLen;omega
         have CY:=lhd (aiq Fg (aiq J3 (aiq Oe (aiq J4 (aiq Of (aiq Og (aiq sO (aiq l0 (aiq l1 j2)))))))));clear J3 Oe J4 Of Og sO sP
         go_region_held_law (fun w'=>w'.cell? ⟨pJ,0,none⟩=some (.map (some BJ))/\w'.cell? ad=some (.int .i64 aa)/\w'.cell? ⟨ad.block,ad.off+1,none⟩=some (.int .i64 bb)) (first | exact⟨j2,l0,l1⟩ | exact⟨qk (w:=wc.drew) j2 _,qk (w:=wc.drew) l0 _,qk (w:=wc.drew) l1 _⟩ | exact⟨rj,r0,r1⟩ | exact⟨sj,s0,s1⟩) (first
          |(refine step_append_lies _ rfl _ _ 22 rfl aI 3 i0 _ 1 8 Tryz.underlying22 hi0 bL bT cp rfl (by decide) _ _ _ rfl ((World.ownsRow.drew uQ).alloc _) ⟨wc.heap.size,0,none⟩ 1 1 [.int .i64 aa] rfl rfl (q7l wc.drew 3 [.int .i64 aa]) (q5v _) (by decide) (by unfold maxLen;omega) (by omega) (by simp;omega) _ rfl ?_;intro g2 cg w6 aO ar cU e6;have o6:Mp Tryz.prog 3 w6 BJ ((nn+1)) gB:=(Mp.alloc (w:=wc.drew) CY.out.1 _).kept ar (fun e=>by have:=pT BJ e.symm;omega);have r0:w6.cell? ad=some (.int .i64 aa):=ql ar (qk (w:=wc.drew) CY.out.2.2.2.2.2.2.2.1 _) (fun kk h=>by have:=pT kk h;omega);have r1:w6.cell? ⟨ad.block,ad.off+1,none⟩=some (.int .i64 bb):=ql ar (qk (w:=wc.drew) CY.out.2.2.2.2.2.2.2.2.1 _) (fun kk h=>by have:=pT kk h;show ad.block≠kk;omega);have rj:w6.cell? ⟨pJ,0,none⟩=some (.map (some BJ)):=ql ar (qk (w:=wc.drew) CY.out.2.2.2.2.2.2.2.2.2 _) (fun kk h=>by have:=pT kk h;show pJ≠kk;omega);have F6:=lhd (aiq aO (aiq ar (aiq cU e6)));obtain⟨w7,ll,fL,de⟩:=Mp.set o6 Tryz.underlying3 Tryz.underlying215 J5 CW (.slice (some ⟨g2,0,none⟩) (((q1r jl aa bb) bb).length+1) cg);have s0:w7.cell? ad=some (.int .i64 aa):=ql de r0 (fun kk h=>by cases h;show ad.block≠BJ;omega);have s1:w7.cell? ⟨ad.block,ad.off+1,none⟩=some (.int .i64 bb):=ql de r1 (fun kk h=>by cases h;show ad.block≠BJ;omega);have sj:w7.cell? ⟨pJ,0,none⟩=some (.map (some BJ)):=ql de rj (fun kk h=>by cases h;show pJ≠BJ;omega);have F7:=lhd (aiq fL de);clear aO ar cU e6 fL de))
         all_goals
          obtain⟨aO,er,cU,e6⟩:=F6.out;have ar:(wc.drew.alloc (.cells #[.int .i64 aa] 3)).grownBy w6 Fh.ownBlock:=er;obtain⟨fL,de⟩:=F7.out;obtain⟨b5,b6,b7,b8,b9,wE,rn,_⟩:=CY.out;have pP:Below wc.heap.size wc (wc.drew.alloc (.cells #[.int .i64 aa] 3)):=(qb (Below.refl _ wc) 1).alloc (nlr _) _;have rW:(wc.drew.alloc (.cells #[.int .i64 aa] 3)).grownBy w6 (Od bb).ownBlock:=by rw[<-rn];exact ar
          have Oh:Gs (fun b=>b=BJ\/aI<=b) wc w7:=((Gs.xh pP).grown ar (fun kk h=>.inr (.inr (pT kk h)))).grown de (fun kk e=>by cases e;exact .inr (.inl rfl));have Tk:Rws w7 aI BJ (fun _=>False) (nn+1+1) (q1r (q1r jl aa bb) bb aa):=Rws.app b5 b6 b7 b8 b9 wE (fun b h=>h.elim) bb aa pP g2 cg _ rW aO (by rw[<-rn];rcases cU with h | h;exact .inl h;exact .inr h) fL de;have Oi:Gs (fun b=>b=BJ\/b=r4\/aI<=b) Au w7:=(cJ.trans (Ax.mono (fun b _ h=>h.elim .inl (fun h=>.inr (.inr h))))).trans (Oh.mono (fun b _ h=>h.elim .inl (fun h=>.inr (.inr h))));have CZ:=q81 Oh (q81 Ax bV.out.1 (by omega) (by omega)) (by omega) (by omega);have yB:=lhd (aiq CZ Oi);clear CZ Oi;go_wp2_with fail;go_roundw
          case measure=>rw[yB.out.1.left_eq,Ju.out.left_eq];exact bV.out.2.1
          case rel =>
           refine⟨_,_,nn+2,_,yB.out.1,Tk,by have:=bV.out.2.1;omega,(show Hid _ from qb4 nO bb aa),(show Hid _ from fun i k=>?_),(show Hid _ from fun c hc hl=>?_),yB.out.2⟩
           ·rw[qb5,qb5,CQ.out i k];constructor
            ·rintro ((⟨c,hc,hl,h⟩ | ⟨rfl,rfl⟩) | ⟨rfl,rfl⟩)
             ·exact⟨c,hc,by rw[hl];rfl,h⟩
             ·exact⟨nx,by rw[bV.out.2.2.1];rfl,by rw[q82];simp,.inl cy⟩
             ·exact⟨nx,by rw[bV.out.2.2.1];rfl,by rw[q82];simp,.inr cy⟩
            ·rintro ⟨c,hc,hl,h⟩;by_cases uR:c=nx
             ·subst uR;rw[cy] at h;rcases h with h | h
              ·injection h with e1 h;injection h with e2 _;subst e1 e2;exact .inl (.inr ⟨rfl,rfl⟩)
              ·injection h with e1 h;injection h with e2 _;subst e1 e2;exact .inr ⟨rfl,rfl⟩
             ·exact .inl (.inl ⟨c,hc,qea hl uR,h⟩)
           ·by_cases uR:c=nx
            ·subst uR;rw[cy];rfl
            ·exact CR.out c hc (qea hl uR)
       ·have AL:((vn:Int) != 2)=true:=by simp;omega
        have ir:((vn:Int) == 2)=false:=by simp;omega
        have hE:xv (qx m) x.cl=25:=by
         have cD:plO o nx≠[]:=fun e=>by
          have:=(fV.out.1.2.1 nx).1 (by rw[bV.out.2.2.1];rfl);exact this e
         have h3:(occAt o nx).length=vn:=by rw[<-bV.out.2.2.2.2.1];unfold plO;rw[gm]
         have h2:occAt o nx≠[]:=fun e=>cD (by unfold plO;rw[e];rfl)
         obtain⟨p,hp⟩:=List.exists_mem_of_ne_nil _ h2;have ic:=gH.1 hp;have jN:p.1=nx:=by simpa using ic.2
         unfold xv;rw[<-HO.out,if_neg (fun ⟨q,_,hq⟩=>hq (iI.out q.1)),if_pos ⟨p,ic.1,by rw[jN,h3];exact hv2⟩]
        have HE:=lhd hE;have yA:Below w.heap.size w w2:=nK.out.trans (cJ.below nK.out.size (fun b hb=>by have:=nK.out;rcases hb with h | h | h <;> omega));have Tl:=lhd yA;clear hE hv2 yA;go_wp2_with fail;go_ret;exact⟨by rw[HE.out];rfl,Tl.out⟩
    ·intro nx cv kl y1 y2 w2 sI aq dd hv bK jP hlt cA ep kM;obtain⟨x',oB,rfl,Ap⟩:=Maps.keyOf_int_inv Tryz.underlying3 aq;have Cy:nx=x':=by injection oB
     subst Cy;have hv2:y1 = .held cv:=by
      have:hld cv=some (.held cv,[]):=rfl;rw[this] at hv;injection hv with hv;injection hv with hv _;exact hv.symm
     subst hv2;have jQ:=NL.out.qh3 bK;have AN:cv = .int .i64 (q0c o nx):=by have:=EU.out nx;rw[jQ] at this;exact this
     subst AN;obtain⟨S,hS⟩ : ∃ S,S=q0c o nx:=⟨_,rfl⟩
     rw[<-hS] at kM;have Cz:(Instr.entry (.pointer (some ⟨r,0,none⟩))).run Tryz.prog w2 = .ok (.tuple #[.int .i64 nx,.int .i64 S]) w2:=kM;have Tn:w2.cell? ⟨bx,2,none⟩=some (.slice x.a x.n x.c):=ql cA k2 (fun k e=>by cases e;show bx≠r;omega);have aw:Below w.heap.size w w2:=HB.out.grown cA HB.out.size (fun k e=>by cases e;omega);have Oj:Rws w2 base BM (fun b=>b=r) no (plO o):=by
      obtain⟨g,vm,a1,a2,a3,a4,a5,a6⟩:=mM;refine⟨g,vm,a1.kept cA (fun e=>by cases e;omega),a2,a3,fun c=>(a4 c).kept cA ?_,a5,a6⟩;cases h:(vm c).ownBlock with
      | none=>exact .inl rfl
      | some b=>exact .inr fun e=>(a6 c b h).2 (by injection e)
     have bV:=lhd (aiq jP (aiq hlt (aiq hS (aiq Oj (aiq aw (aiq jQ dd))))));have cp:base<=w2.heap.size:=by have:=cA.size;omega
     clear aq dd hv bK jP hlt jQ oB Ap kM fH mM hS k2 cA ep Oj aw;by_cases dR:S=0
     ·subst dR;go_wp2_with fail;go_roundw
      case measure=>rw[bV.out.1.left_eq,Ao.out.left_eq];exact bV.out.2.1
      case rel =>
       refine⟨_,_,bV.out.1,(show Hid _ from fun c hc hl=>?_),bV.out.2.2.2.1,bV.out.2.2.2.2.1,Tn,cp⟩;by_cases uR:c=nx
       ·rw[uR];exact bV.out.2.2.1.symm
       ·have:(Lit.int .i64 c).sameKey (.int .i64 nx)=false:=by simp[Lit.sameKey,uR]
        rw[this] at hl;exact HF.out c hc (by simpa using hl)
     ·have AL:(S != 0)=true:=by simpa using dR
      have ir:(S == 0)=false:=by simpa using dR
      have hE:xv (qx m) x.cl=24:=by
       have h1:q0c (occ (qx m) x.cl) nx≠0:=by rw[<-HO.out,<-bV.out.2.2.1];exact dR
       have h2:occAt (occ (qx m) x.cl) nx≠[]:=fun e=>h1 (by unfold q0c;rw[e];rfl)
       obtain⟨p,hp⟩:=List.exists_mem_of_ne_nil _ h2;have ic:=gH.1 hp;have jN:p.1=nx:=by simpa using ic.2
       unfold xv;rw[if_pos ⟨p,ic.1,by rw[jN];exact h1⟩]
      have HE:=lhd hE;clear hE dR;go_wp2_with fail;go_ret;exact⟨by rw[HE.out];rfl,bV.out.2.2.2.2.1⟩
end Go.Proofs.YtlhicnfeajejhaaGreatDoor
namespace Go.Cx
theorem q6l {α:Type} (key:α->Int) (L:List α) (c:Int):(xb key L).find? (fun x=>key x == c)=L.find? (fun x=>key x == c):=by
 cases hf:(xb key L).find? (fun x=>key x == c) with
 | some X =>
  have h1:=gT hf;have h2:=List.find?_some hf;have h2:key X=c:=by simpa using h2
  subst h2;exact(q4n (key:=key) L X h1).symm
 | none =>
  symm
  rw[List.find?_eq_none] at hf ⊢;intro Y hY hk;obtain⟨X,hX,e⟩:=(q75 (key:=key) c).2 ⟨Y,hY,by simpa using hk⟩;exact hf X hX (by simpa using e)
theorem q1l {T:Int->Option Cl} {x:Cl} (h:xx T x=0):x.s.length<=64/\(∀ s∈x.s,s.g=1\/s.g = -1)/\(1 < x.dim->0 < x.s.length):=by
 unfold xx at h;split at h
 ·cases h
 ·rename_i h1;split at h
  ·cases h
  ·rename_i h2;split at h
   ·cases h
   ·split at h
    ·cases h
    ·rename_i h4;refine⟨by omega,fun s hs=>?_,by omega⟩;apply gR;intro hn;apply h4;rw[List.any_eq_true];exact⟨s,hs,by simp;omega⟩
theorem qfs {T:Int->Option Cl} {K:List Cl} {k:Nat} {x:Cl} (hk:K[k]? = some x) (last:Int) :
  q0a T last (K.drop k)=if x.id<=last then some (x.id,20) else if xx T x≠0 then some (x.id,xx T x) else q0a T x.id (K.drop (k+1)):=by
 obtain⟨h,rfl⟩:=gc.1 hk;rw[be h];rfl
theorem qft {T:Int->Option Cl} {K:List Cl} {k:Nat} {x:Cl} (hk:K[k]? = some x) :
  k9 T (K.drop k)=if 1 < x.dim/\xv T x≠0 then some (x.id,xv T x) else k9 T (K.drop (k+1)):=by
 obtain⟨h,rfl⟩:=gc.1 hk;rw[be h];rfl
end Go.Cx
namespace Go.Proofs.YtlhicnfeajejhaaGreatDoor
open Go.Cx Go.RowKit
theorem qlg {m:List Ce} {K:List Cl} (h:m.map Ce.cl=canon K):qx m=cAt K:=by
 funext c
 unfold qx cAt cellsOf;rw[q6l,<-h,List.find?_map];rfl
theorem q6m {mm l:List Ce} (cC:mm.map Ce.cl=canon (l.map Ce.cl)) (hok:COk l):∀ x∈mm,I64 x.id/\I64 x.dim/\∀ s∈x.s,I64 s.c/\I64 s.g:=fun x hx=>by
 have h1:x.cl∈canon (l.map Ce.cl):=by rw[<-cC];exact gE hx
 unfold canon at h1;obtain⟨y,hy,e⟩:=go.1 h1;obtain⟨z,hz,rfl⟩:=go.1 ((q2m _ _).1 hy);have e1:z.id=x.id:=congrArg Cl.id e;have e2:z.dim=x.dim:=congrArg Cl.dim e;have e3:stb Sd.c z.s=x.s:=congrArg Cl.s e;obtain⟨⟨a1,a2⟩,_,a3⟩:=hok z hz;exact⟨e1 ▸ a1,e2 ▸ a2,fun s hs=>a3 s ((q2m _ _).1 (e3 ▸ hs))⟩
theorem qlh (v:Value) (l:List Ce) (w:World) (h:SlC w v l) (hl:l.length<=1099511627776) (hok:COk l) :
  Calls Tryz.prog 150 #[.agg #[v]] w fun e w'=>e = .returned (.tuple #[.int .i64 (chk (l.map Ce.cl)).1,.int .i64 (chk (l.map Ce.cl)).2])/\Below w.heap.size w w':=by
 obtain⟨a,len,cap,rfl⟩:=qg h.1;have hlen:l.length=len:=by
  obtain⟨_,_,h3,_⟩:=h.1.open;rw[qt Ce.qp] at h3;omega
 have HA:=lhd (aiq h (aiq hl hok));have HL:=lhd hlen;clear h hl hok hlen;by_cases h4:4000 < len
 ·have hE:chk (l.map Ce.cl)=(0,2):=by unfold chk;rw[if_pos (by rw[gm,HL.out];exact h4)]
  have HE:=lhd hE;clear hE;go_enter Tryz.func150,Tryz.ntmps150;go_wp2_with fail;go_ret2;exact⟨by rw[HE.out];rfl,(Below.refl _ w).alloc (nlr _) _⟩
 ·have hE:chk (l.map Ce.cl)=match q0a (cAt (l.map Ce.cl)) 0 (canon (l.map Ce.cl)) with | some e=>e | none=>(k9 (cAt (l.map Ce.cl)) (canon (l.map Ce.cl))).getD (0,0):=by
   unfold chk;rw[if_neg (by rw[gm,HL.out];exact h4)];rfl
  have HE:=lhd hE;clear hE;go_enter Tryz.func150,Tryz.ntmps150;go_wp2_with fail;obtain⟨W,hW⟩ : ∃ W:World,W=w.alloc (.cells #[.slice a len cap] 26):=⟨_,rfl⟩
  rw[<-hW];have aK:Below w.heap.size w W:=by rw[hW];exact(Below.refl _ w).alloc (nlr _) _
  have kb:W.cell? ⟨w.heap.size,0,none⟩=some (.slice a len cap):=by rw[hW];exact qd w #[.slice a len cap] 26 (0,0) 0
  clear hW;refine(qnb _ l W (HA.out.1.q8 aK) HA.out.2.1 HA.out.2.2).mono ?_;rintro e w1 ⟨T,rfl,hT,al⟩;have J6:=Cx.q8 al kb;have pU:Below w.heap.size w w1:=aK.trans (al.mono aK.size);have HT:=lhd hT;have aN:=lhd pU;clear hT pU al kb aK;go_wp2_with fail;refine(q8l _ l w1 (HA.out.1.q8 aN.out) HA.out.2.1 (fun x hx=>(HA.out.2.2 x hx).2.1)).mono ?_;rintro e w2 ⟨r,mm,rfl,cC,au,iA,aw⟩;obtain⟨B,nT,Wu,m,_,_,t3,_,t5,_,t7,t8⟩:=HT.out;have cn:Below w.heap.size w w2:=aN.out.trans (aw.mono aN.out.size);have q0:w2.cell? ⟨T,0,none⟩=some (.map (some B)):=Cx.q8 aw t3;have Da:=t5.q8 aw;have fq:∀ y∈m,Sl w2 2 y.sl (cat Sd.enc y.s):=fun y hy=>(t8 y hy).q8 aw
  have fN:=Sl.qc au;obtain⟨a2,n2,c2,rfl⟩:=qg fN;have iz:∀ x∈mm,Sl w2 2 x.sl (cat Sd.enc x.s):=fun x hx=>Sl.qc (iA x hx)
  have ir:mm.length=n2:=by
   obtain⟨_,_,h3,_⟩:=fN.open;rw[qt Ce.qp] at h3;omega
  have To:n2<=2 ^ 62:=by
   have h1:mm.length=l.length:=by rw[<-gm (f:=Ce.cl),cC,q0z,gm]
   have:=HA.out.2.1;omega
  have Gv:=qlg t7;obtain⟨KK,Fi⟩ : ∃ KK,KK=canon (l.map Ce.cl):=⟨_,rfl⟩
  have Ag:Hid (chk (l.map Ce.cl)=match q0a (qx m) 0 KK with | some e=>e | none=>(k9 (qx m) KK).getD (0,0)):=by
   show chk (l.map Ce.cl)=_;rw[HE.out,Gv,Fi]
  have HM:Hid (mm.map Ce.cl=KK):=by show mm.map Ce.cl=KK;rw[Fi];exact cC
  have HI:=lhd (q6m cC HA.out.2.2);have J7:Hid (∀ c y,qx m c=some y->y∈KK/\∀ s∈y.s,I64 s.c):=fun c y hy=>by
   obtain⟨z,hz,_,e,_⟩:=(q97 m c).2 y hy;subst e;exact⟨by rw[Fi,<-t7];exact gE hz,fun s hs=>((q6m t7 HA.out.2.2 z hz).2.2 s hs).1⟩
  have lZ:=q3b a2 n2 c2;have vY:=lhd (aiq q0 (aiq Da fq));have HC:=lhd (aiq fN iz);have HN:=lhd ir;have aF:=lhd cn;clear cC au iA aw t3 t5 t7 t8 cn q0 Da fq fN iz ir Gv Fi J6 h4;go_wp2_with fail;clear lZ;go_loopw [5,24] (fun la i wr=>∃ (k:Nat) (last:Int),i = .int .i64 k/\la = .int .i64 last/\k<=n2/\Hid (q0a (qx m) 0 KK=q0a (qx m) last (KK.drop k))/\Below w2.heap.size w2 wr) (fun _ i _=>n2 - (vI i).toNat)
  case atStart=>exact⟨0,0,rfl,rfl,gp _,(show Hid _ from rfl),Below.refl _ _⟩
  case round =>
   obtain⟨k,last,rfl,rfl,hk,HK,hB⟩:=hrel;by_cases hlt:k < n2
   ·obtain⟨x,hx⟩ : ∃ x,mm[k]? = some x:=⟨_,g8 (by rw[HN.out];exact hlt)⟩
    obtain⟨h2,h3,h4,h5,h6⟩:=HC.out.1.open;obtain⟨ad,rfl⟩ : ∃ ad,a2=some ad:=by
     cases a2 with
     | none=>have:=h5 rfl;omega
     | some ad=>exact⟨ad,rfl⟩
    obtain⟨e0,e1,e2⟩:=zh mm k x hx;have d0:wr.cell? (ad.add (k*3))=some (.int .i64 x.id):=Cx.q8 hB (h6 ad rfl _ _ e0);have d1:wr.cell? ⟨(ad.add (k*3)).block,(ad.add (k*3)).off+1,none⟩=some (.int .i64 x.dim):=by rw[qi _ _ _ (by omega)];exact Cx.q8 hB (h6 ad rfl _ _ e1)
    have d2:wr.cell? ⟨(ad.add (k*3)).block,(ad.add (k*3)).off+2,none⟩=some (.slice x.a x.n x.c):=by rw[qi _ _ _ (by omega)];exact Cx.q8 hB (h6 ad rfl _ _ e2)
    have lk:=gd hx;have hKk:KK[k]? = some x.cl:=by rw[<-HM.out,List.getElem?_map,hx];rfl
    have bM:q0a (qx m) last (KK.drop k)=if x.id<=last then some (x.id,20) else if xx (qx m) x.cl≠0 then some (x.id,xx (qx m) x.cl) else q0a (qx m) x.id (KK.drop (k+1)):=qfs (T:=qx m) hKk last
    have aD:Below wr.heap.size wr (wr.alloc (.cells #[.int .i64 x.id,.int .i64 x.dim,.slice x.a x.n x.c] 75)):=(Below.refl _ wr).alloc (nlr _) _;have HX:=lhd (aiq lk (aiq bM (aiq aD hB)));clear h2 h3 h4 h5 h6 e0 e1 e2 hx lk hKk bM aD hB;by_cases hle:x.id<=last
    ·have hr:chk (l.map Ce.cl)=(x.id,20):=by rw[Ag.out,HK.out,HX.out.2.1,if_pos hle]
     have HR:=lhd hr;clear hr;go_wp2_with fail;go_ret2;refine⟨?_,aF.out.trans ((HX.out.2.2.2.trans (HX.out.2.2.1.mono HX.out.2.2.2.size)).mono aF.out.size)⟩;rw[HR.out];rfl
    ·have CP:=lhd (aiq hle trivial);have Tp:last < x.id:=by omega
     clear hle;go_wp2_with fail;obtain⟨V,hV⟩ : ∃ V:World,V=wr.alloc (.cells #[.int .i64 x.id,.int .i64 x.dim,.slice x.a x.n x.c] 75):=⟨_,rfl⟩
     have v0:V.cell? ⟨wr.heap.size,0,none⟩=some (.int .i64 x.id):=by rw[hV];exact qd wr #[.int .i64 x.id,.int .i64 x.dim,.slice x.a x.n x.c] 75 (0,0) 0
     have fb:Below w2.heap.size w2 V:=HX.out.2.2.2.trans (by rw[hV];exact HX.out.2.2.1.mono HX.out.2.2.2.size);rw[<-hV];have HV:=lhd fb;have ae:=qo3 T B nT m x V (Cx.q8 fb vY.out.1) (vY.out.2.1.q8 fb) ((HC.out.2 x HX.out.1).q8 fb) (HI.out x HX.out.1).2.1 (HI.out x HX.out.1).2.2;clear hV fb;refine ae.mono ?_;rintro e w3 ⟨rfl,aB⟩;have Tq:=Cx.q8 aB v0;have eK:=lhd (HV.out.trans (aB.mono HV.out.size));clear ae v0 aB;obtain⟨F,hF⟩ : ∃ F,F=xx (qx m) x.cl:=⟨_,rfl⟩
     rw[<-hF];have HF:=lhd hF;by_cases uT:F=0
     ·subst uT;have jC:q0a (qx m) 0 KK=q0a (qx m) x.id (KK.drop (k+1)):=by
       rw[HK.out,HX.out.2.1,if_neg (Int.not_le.2 CP.out.1),if_neg (fun h=>h HF.out.symm)]
      have Db:=lhd jC;clear hF jC;go_wp2_with fail;go_roundw
      case measure=>simp[vI];omega
      case rel=>exact⟨k+1,x.id,qh (by omega),rfl,by omega,Db,eK.out⟩
     ·have Dc:(F != 0)=true:=by simpa using uT
      have hr:chk (l.map Ce.cl)=(x.id,F):=by rw[Ag.out,HK.out,HX.out.2.1,if_neg (Int.not_le.2 CP.out.1),if_pos (by rw[<-HF.out];exact uT),hF]
      have HR:=lhd hr;clear hr hF;go_wp2_with fail;go_ret2;exact⟨by rw[HR.out];rfl,aF.out.trans (eK.out.mono aF.out.size)⟩
   ·have oC:k=n2:=by omega
    have jT:q0a (qx m) 0 KK=none:=by
     rw[HK.out,List.drop_eq_nil_of_le (by rw[<-HM.out,gm,HN.out];omega)];rfl
    have uU:=lhd jT;have Ix:=lhd hB;have iw:((k:Int) < (n2:Int))=False:=by simp;omega
    clear jT oC;go_wp2_with fail;have bT:=(q4f uU.out).1;have CN:Hid (∀ y∈KK,y.s.length<=64/\(∀ r∈y.s,r.g=1\/r.g = -1)/\(1 < y.dim->0 < y.s.length)):=fun y hy=>q1l (bT y hy).2
    have CB:chk (l.map Ce.cl)=(k9 (qx m) KK).getD (0,0):=by rw[Ag.out,uU.out]
    have xN:=lhd CB;clear bT CB iw hB;obtain⟨w4,sQ⟩ : ∃ w4,w4=wr:=⟨_,rfl⟩
    subst sQ;go_loopw [47] (fun i wr=>∃ k:Nat,i = .int .i64 k/\k<=n2/\Hid (k9 (qx m) KK=k9 (qx m) (KK.drop k))/\Below w2.heap.size w2 wr) (fun i _=>n2 - (vI i).toNat)
    case atStart=>exact⟨0,rfl,gp _,(show Hid _ from rfl),Ix.out⟩
    case round =>
     obtain⟨k,rfl,hk,HK,hB⟩:=hrel;by_cases hlt:k < n2
     ·obtain⟨x,hx⟩ : ∃ x,mm[k]? = some x:=⟨_,g8 (by rw[HN.out];exact hlt)⟩
      obtain⟨h2,h3,h4,h5,h6⟩:=HC.out.1.open;obtain⟨ad,rfl⟩ : ∃ ad,a2=some ad:=by
       cases a2 with
       | none=>have:=h5 rfl;omega
       | some ad=>exact⟨ad,rfl⟩
      obtain⟨e0,e1,e2⟩:=zh mm k x hx;have d0:wr.cell? (ad.add (k*3))=some (.int .i64 x.id):=Cx.q8 hB (h6 ad rfl _ _ e0);have d1:wr.cell? ⟨(ad.add (k*3)).block,(ad.add (k*3)).off+1,none⟩=some (.int .i64 x.dim):=by rw[qi _ _ _ (by omega)];exact Cx.q8 hB (h6 ad rfl _ _ e1)
      have d2:wr.cell? ⟨(ad.add (k*3)).block,(ad.add (k*3)).off+2,none⟩=some (.slice x.a x.n x.c):=by rw[qi _ _ _ (by omega)];exact Cx.q8 hB (h6 ad rfl _ _ e2)
      have lk:=gd hx;have hKk:KK[k]? = some x.cl:=by rw[<-HM.out,List.getElem?_map,hx];rfl
      have bM:k9 (qx m) (KK.drop k)=if 1 < x.dim/\xv (qx m) x.cl≠0 then some (x.id,xv (qx m) x.cl) else k9 (qx m) (KK.drop (k+1)):=qft (T:=qx m) hKk
      have aD:Below wr.heap.size wr (wr.alloc (.cells #[.int .i64 x.id,.int .i64 x.dim,.slice x.a x.n x.c] 75)):=(Below.refl _ wr).alloc (nlr _) _;have HX:=lhd (aiq lk (aiq bM (aiq aD (aiq hB (gd hKk)))));clear h2 h3 h4 h5 h6 e0 e1 e2 hx lk hKk bM aD hB;by_cases hd:1 < x.dim
      ·have HD:=lhd hd;go_wp2_with fail;obtain⟨V,hV⟩ : ∃ V:World,V=wr.alloc (.cells #[.int .i64 x.id,.int .i64 x.dim,.slice x.a x.n x.c] 75):=⟨_,rfl⟩
       have v0:V.cell? ⟨wr.heap.size,0,none⟩=some (.int .i64 x.id):=by rw[hV];exact qd wr #[.int .i64 x.id,.int .i64 x.dim,.slice x.a x.n x.c] 75 (0,0) 0
       have fb:Below w2.heap.size w2 V:=HX.out.2.2.2.1.trans (by rw[hV];exact HX.out.2.2.1.mono HX.out.2.2.2.1.size);rw[<-hV];have HV:=lhd fb;have cr:=CN.out x.cl HX.out.2.2.2.2;have ae:=qip T B nT m x V (Cx.q8 fb vY.out.1) (vY.out.2.1.q8 fb) ((HC.out.2 x HX.out.1).q8 fb) (fun y hy=>(vY.out.2.2 y hy).q8 fb)
        ⟨cr.1,fun r hr=>⟨((HI.out x HX.out.1).2.2 r hr).1,cr.2.1 r hr⟩⟩ (cr.2.2 hd) (fun c y hy=>⟨(CN.out y (J7.out c y hy).1).1,fun r hr=>⟨(J7.out c y hy).2 r hr,(CN.out y (J7.out c y hy).1).2.1 r hr⟩⟩)
       clear hV fb cr;refine ae.mono ?_;rintro e w3 ⟨rfl,aB⟩;have Tq:=Cx.q8 aB v0;have eK:=lhd (HV.out.trans (aB.mono HV.out.size));clear ae v0 aB;obtain⟨F,hF⟩ : ∃ F,F=xv (qx m) x.cl:=⟨_,rfl⟩
       rw[<-hF];have HF:=lhd hF;by_cases uT:F=0
       ·subst uT;have jC:k9 (qx m) KK=k9 (qx m) (KK.drop (k+1)):=by
         rw[HK.out,HX.out.2.1,if_neg (fun h=>h.2 HF.out.symm)]
        have Db:=lhd jC;clear hF jC;go_wp2_with fail;go_roundw
        case measure=>simp[vI];omega
        case rel=>exact⟨k+1,qh (by omega),by omega,Db,eK.out⟩
       ·have Dc:(F != 0)=true:=by simpa using uT
        have hr:chk (l.map Ce.cl)=(x.id,F):=by rw[xN.out,HK.out,HX.out.2.1,if_pos ⟨HD.out,by rw[<-HF.out];exact uT⟩,<-hF];rfl
        have HR:=lhd hr;clear hr hF;go_wp2_with fail;go_ret2;exact⟨by rw[HR.out];rfl,aF.out.trans (eK.out.mono aF.out.size)⟩
      ·have jC:k9 (qx m) KK=k9 (qx m) (KK.drop (k+1)):=by
        rw[HK.out,HX.out.2.1,if_neg (fun h=>hd h.1)]
       have Db:=lhd jC;clear jC;go_wp2_with fail;go_roundw
       case measure=>simp[vI];omega
       case rel=>exact⟨k+1,qh (by omega),by omega,Db,HX.out.2.2.2.1.trans (HX.out.2.2.1.mono HX.out.2.2.2.1.size)⟩
     ·have hr:chk (l.map Ce.cl)=(0,0):=by
       rw[xN.out,HK.out,List.drop_eq_nil_of_le (by rw[<-HM.out,gm,HN.out];omega)];rfl
      have HR:=lhd hr;have Tr:=lhd hB;clear hr;go_wp2_with fail;go_ret2;exact⟨by rw[HR.out];rfl,aF.out.trans (Tr.out.mono aF.out.size)⟩
end Go.Proofs.YtlhicnfeajejhaaGreatDoor
