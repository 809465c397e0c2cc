/- Steps towards MorseChecks. Conditions: none. -/
import Derived.Test.YtlhicnfeajejhaaGreatDoorFQe
set_option maxRecDepth 1000000
set_option maxHeartbeats 16000000
namespace Go.Cx
open Go.Proofs.YtlhicnfeajejhaaGreatDoor
structure Good (K:List Cl):Prop where
 asc:Asc K
 pos:∀ x∈K,0 < x.id
 sasc:∀ x∈K,x.s.Pairwise fun s t=>s.c < t.c
 sg:∀ x∈K,∀ s∈x.s,s.g=1\/s.g = -1
 sub:∀ x∈K,∀ s∈x.s,∃ y∈K,y.id=s.c/\y.dim=x.dim - 1
 few:∀ x∈K,x.s.length<=64
 len:K.length<=4000
theorem q2u {T:Int->Option Cl} {x:Cl} (h:xx T x=0):∀ i,i < x.s.length->xq T x i=false:=by
 unfold xx at h;split at h
 ·cases h
 ·split at h
  ·cases h
  ·split at h
   ·cases h
   ·rename_i h3;intro i hi;cases hb:xq T x i with
    | false=>rfl
    | true=>exact absurd (List.any_eq_true.2 ⟨i,gy.2 hi,hb⟩) h3
theorem qco {l:List Sd} (h:Srt Sd.c l) (hn:∀ i,0 < i->∀ (h1:i < l.length) (h2:i - 1 < l.length),l[i - 1].c≠l[i].c):l.Pairwise fun s t=>s.c < t.c:=by
 induction l with
 | nil=>exact .nil
 | cons a l ih =>
  obtain⟨h1,h2⟩:=gx.1 h;have ih:=ih h2 fun i hi g1 g2 e=>hn (i+1) (by omega) (by simp;omega) (by simp;omega) (by
   obtain⟨j,rfl⟩ : ∃ j,i=j+1:=⟨i - 1,by omega⟩
   exact e)
  refine gx.2 ⟨fun t ht=>?_,ih⟩;cases l with
  | nil=>cases ht
  | cons b l =>
   have cy:=h1 b (by simp);have ak:=hn 1 (by omega) (by simp) (by simp);have ak:a.c≠b.c:=ak;rcases gt.1 ht with rfl | ht
   ·omega
   ·have:=(gx.1 ih).1 t ht;omega
theorem q0d {K:List Cl} (h:chk K=(0,0)):Good (canon K):=by
 unfold chk at h;split at h
 ·cases h
 rename_i h4;cases hc:q0a (cAt K) 0 (canon K) with
 | some e =>
  rw[hc] at h;have:=q1i hc;have h2:e=(0,0):=h;rw[h2] at this;exact absurd rfl this
 | none =>
  obtain⟨h1,h2⟩:=q4f hc;have hA:Asc (canon K):=h2;have hT:∀ c y,cAt K c=some y->y∈canon K/\y.id=c:=fun c y hy=>by
   unfold cAt cellsOf at hy;rw[q08 hA] at hy;exact⟨gT hy,by simpa using List.find?_some hy⟩
  have rY:∀ x∈canon K,Srt Sd.c x.s:=fun x hx=>by
   unfold canon at hx;obtain⟨y,_,rfl⟩:=go.1 hx;exact q8r _
  refine⟨hA,fun x hx=>(h1 x hx).1,fun x hx=>?_,fun x hx=>(q1l (h1 x hx).2).2.1,fun x hx s hs=>?_,fun x hx=>(q1l (h1 x hx).2).1,by rw[q0z];omega⟩
  ·refine qco (rY x hx) fun i hi g1 g2 e=>?_
   have:=q2u (h1 x hx).2 i g1;unfold xq at this;rw[g8 g1,g8 g2] at this;simp only [Bool.or_eq_false_iff,Bool.and_eq_false_iff,decide_eq_false_iff_not] at this;rcases this.2 with h5 | h5
   ·exact h5 hi
   ·simp[e] at h5
  ·obtain⟨i,hi,rfl⟩:=List.getElem_of_mem hs;have:=q2u (h1 x hx).2 i hi;unfold xq at this;rw[g8 hi] at this;simp only [Bool.or_eq_false_iff] at this;cases hy:cAt K x.s[i].c with
   | none=>rw[hy] at this;cases this.1
   | some y =>
    rw[hy] at this;obtain⟨g1,g2⟩:=hT _ _ hy;exact⟨y,g1,g2,by simpa using this.1⟩
section
variable {K:List Cl} {hi lo:Int->Int}
theorem q0o {c:Int} {s:Sd} (hs:s∈zq K c):∃ x∈K,x.id=c/\s∈x.s:=by
 unfold zq at hs;cases hf:K.find? (fun x=>x.id == c) with
 | none=>rw[hf] at hs;cases hs
 | some x =>
  rw[hf] at hs;exact⟨x,gT hf,by simpa using List.find?_some hf,hs⟩
theorem qll {l:List Sd} {c:Int} (h:sgL l c≠0):∃ s∈l,s.c=c/\s.g=sgL l c:=by
 unfold sgL at h ⊢;cases hs:sgO l c with
 | none=>rw[hs] at h;exact absurd rfl h
 | some g=>exact qe3 hs
theorem q45 {b a:Int} (h:sgn K b a≠0):∃ s∈zq K b,s.c=a/\s.g=sgn K b a:=qll h
theorem Good.q2v (G:Good K) {b a:Int} (h:sgn K b a≠0):sgn K b a=1\/sgn K b a = -1:=by
 obtain⟨s,hs,_,hg⟩:=q45 h;obtain⟨x,hx,_,hm⟩:=q0o hs;rw[<-hg];exact G.sg x hx s hm
theorem Good.jm (G:Good K) {b a:Int} (h:sgn K b a≠0):∃ x∈K,∃ y∈K,x.id=b/\y.id=a/\y.dim=x.dim - 1:=by
 obtain⟨s,hs,he,hg⟩:=q45 h;obtain⟨x,hx,hb,hm⟩:=q0o hs;obtain⟨y,hy,h1,h2⟩:=G.sub x hx s hm;exact⟨x,hx,y,hy,hb,h1.trans he,h2⟩
theorem Good.q3h (G:Good K) {b a:Int} (h:sgn K b a≠0):a≠b/\0 < a/\0 < b:=by
 obtain⟨x,hx,y,hy,rfl,rfl,hd⟩:=G.jm h;refine⟨fun e=>?_,G.pos y hy,G.pos x hx⟩;have:=q6c G.asc hy hx e;rw[this] at hd;omega
theorem q9b {l:List Sd} {c:Int} (h:∀ s∈l,s.c≠c):se l c=0:=by
 induction l with
 | nil=>rfl
 | cons s l ih =>
  show (if s.c=c then s.g else 0)+se l c=0;rw[if_neg (h s (by simp)),ih fun t ht=>h t (by simp[ht])];rfl
theorem q6n {l:List Sd} {s:Sd} {c:Int} (h:∀ t∈l,t.c≠s.c):sgO (s :: l) c=if s.c=c then some s.g else sgO l c:=by
 unfold sgO;rw[List.reverse_cons,List.find?_append];by_cases hc:s.c=c
 ·rw[if_pos hc];have h1:l.reverse.find? (fun s=>s.c == c)=none:=List.find?_eq_none.2 fun t ht=>by
   have:=h t (by simpa using ht);simp;omega
  rw[h1];simp[hc]
 ·rw[if_neg hc];have h1:[s].find? (fun s=>s.c == c)=none:=by simp[hc]
  rw[h1];simp
theorem qcp {l:List Sd} (h:l.Pairwise fun s t=>s.c < t.c) (c:Int):se l c=sgL l c:=by
 induction l with
 | nil=>rfl
 | cons s l ih =>
  obtain⟨h1,h2⟩:=gx.1 h;have h3:∀ t∈l,t.c≠s.c:=fun t ht=>by have:=h1 t ht;omega
  show (if s.c=c then s.g else 0)+se l c=_;unfold sgL;rw[q6n h3];by_cases hc:s.c=c
  ·rw[if_pos hc,if_pos hc,q9b fun t ht=>hc ▸ h3 t ht];simp
  ·rw[if_neg hc,if_neg hc,ih h2];simp[sgL]
theorem q83 (f:Int->Int) (r:Int) (h:∀ x∈K,f x.id=0):q1q f r K=0:=by
 induction K with
 | nil=>rfl
 | cons x K ih =>
  show f x.id*_+q1q f r K=0;rw[h x (by simp),ih fun y hy=>h y (by simp[hy]),Int.zero_mul];rfl
theorem qcq (hA:Asc K) (c x r:Int):q1q (qw c x) r K=x*se (zq K c) r:=by
 induction K with
 | nil=>show (0:Int)=x*0;rw[Int.mul_zero]
 | cons y K ih =>
  obtain⟨h1,h2⟩:=gx.1 hA;show qw c x y.id*se y.s r+q1q (qw c x) r K=_;unfold zq;rw[List.find?_cons];by_cases hy:y.id=c
  ·have:(y.id == c)=true:=by simpa using hy
   rw[this];show _=x*se y.s r;rw[q83 _ _ fun z hz=>?_,bD]
   ·unfold qw;rw[if_pos hy]
   ·unfold qw;rw[if_neg];have:=h1 z hz;omega
  ·have:(y.id == c)=false:=by simpa using hy
   rw[this];show _=x*se (zq K c) r;rw[<-ih h2];unfold qw;rw[if_neg hy,Int.zero_mul,Int.zero_add]
theorem Good.bdD (G:Good K) (c x r:Int):bdD K c x r=x*sgn K c r:=by
 unfold Cx.bdD;rw[q5f,qcq G.asc];unfold sgn;by_cases hh:jv K c=true
 ·obtain⟨y,hy,he⟩:=List.any_eq_true.1 hh;have he:y.id=c:=by simpa using he
  subst he;rw[q0b G.asc hy,qcp (G.sasc y hy)]
 ·rw[q0n (by simpa using hh)];rfl
end
structure Mtc (K:List Cl) (hi lo:Int->Int):Prop where
 sg:∀ a,hi a≠0->sgn K (hi a) a≠0
 hl:∀ a,hi a≠0->lo (hi a)=a
 lh:∀ b,lo b≠0->hi (lo b)=b
 no:∀ a,hi a≠0->lo a=0
 lz:lo 0=0
def Ph (U:List Int) (W:Int->Nat) (f:Int->Int):Nat:=(U.map fun d=>(f d).natAbs*W d).sum
theorem q4j {U:List Int} {f g:Int->Nat} (h:∀ d∈U,f d<=g d):(U.map f).sum<=(U.map g).sum:=by
 induction U with
 | nil=>exact nlr _
 | cons a U ih =>
  have h1:=h a (by simp);have h2:=ih fun d hd=>h d (by simp[hd])
  simp only [List.map_cons,List.sum_cons];omega
theorem sum_add (U:List Int) (f g:Int->Nat):(U.map fun d=>f d+g d).sum=(U.map f).sum+(U.map g).sum:=by
 induction U with
 | nil=>rfl
 | cons a U ih=>simp only [List.map_cons,List.sum_cons,ih];omega
theorem qlm (U:List Int) (k:Nat) (f:Int->Nat):(U.map fun d=>k*f d).sum=k*(U.map f).sum:=by
 induction U with
 | nil=>rfl
 | cons a U ih=>simp only [List.map_cons,List.sum_cons,ih,Nat.mul_add]
theorem qb7 (U:List Int):(U.map fun _=>0).sum=0:=by
 induction U with
 | nil=>rfl
 | cons a U ih=>rw[gN,bh,ih]
theorem q6o {U:List Int} {c:Int} {v:Nat} (hn:U.Nodup):(U.map fun d=>if d=c then v else 0).sum<=v:=by
 induction U with
 | nil=>exact gp _
 | cons a U ih =>
  obtain⟨h1,h2⟩:=List.nodup_cons.1 hn;simp only [List.map_cons,List.sum_cons];by_cases ha:a=c
  ·subst ha;rw[if_pos rfl];have:(U.map fun d=>if d=a then v else 0).sum<=(U.map fun _=>0).sum:=q4j fun d hd=>by
    rw[if_neg (fun e:d=a=>h1 (e ▸ hd))];exact nlr _
   have h3:=qb7 U;omega
  ·rw[if_neg ha];have:=ih h2;omega
theorem qcr {U:List Int} {c:Int} {v:Nat} (hc:c∈U):v<=(U.map fun d=>if d=c then v else 0).sum:=by
 induction U with
 | nil=>cases hc
 | cons a U ih =>
  simp only [List.map_cons,List.sum_cons];rcases gt.1 hc with rfl | hc
  ·rw[if_pos rfl];omega
  ·have:=ih hc;omega
theorem qcs {U:List Int} {g:Int->Nat} {d:Int} (hd:d∈U):g d<=(U.map g).sum:=by
 induction U with
 | nil=>cases hd
 | cons a U ih =>
  simp only [List.map_cons,List.sum_cons];rcases gt.1 hd with rfl | hd
  ·omega
  ·have:=ih hd;omega
open Classical in
theorem qfu {U:List Int} (hn:U.Nodup) (g:Int->Nat) (l:List Sd):(U.map fun d=>if ∃ s∈l,s.c=d then g d else 0).sum<=(l.map fun s=>g s.c).sum:=by
 induction l with
 | nil=>refine gn (q4j (g:=fun _=>0) fun d _=>by simp) (by rw[qb7];exact gp _)
 | cons s l ih =>
  refine gn (q4j (g:=fun d=>(if d=s.c then g s.c else 0)+if ∃ s∈l,s.c=d then g d else 0) fun d _=>?_) ?_
  ·by_cases h1:d=s.c
   ·subst h1;simp
   ·rw[if_neg h1,Nat.zero_add];by_cases h2:∃ t∈l,t.c=d
    ·rw[if_pos h2];split <;> omega
    ·rw[if_neg h2,if_neg]
     ·exact nlr _
     ·rintro ⟨t,ht,e⟩;rcases gt.1 ht with rfl | ht
      ·exact h1 e.symm
      ·exact h2 ⟨t,ht,e⟩
  ·rw[sum_add];have:=q6o (c:=s.c) (v:=g s.c) hn;simp only [List.map_cons,List.sum_cons];omega
theorem q9c {l:List Sd} {g:Sd->Nat} {M:Nat} (h:∀ s∈l,g s<=M):(l.map g).sum<=l.length*M:=by
 induction l with
 | nil=>simp
 | cons s l ih =>
  have h1:=h s (by simp);have h2:=ih fun t ht=>h t (by simp[ht])
  simp only [List.map_cons,List.sum_cons,List.length_cons,Nat.succ_mul];omega
theorem qed (E:Int->Int->Prop) (hE:∀ a,¬ Relation.TransGen E a a):∀ (n:Nat) (S:List Int),S.length<=n->∃ r:Int->Nat,(∀ p∈S,∀ q∈S,E p q->r q < r p)/\∀ p,r p<=n
 | 0,S,hl=>⟨fun _=>0,fun p hp=>absurd (List.length_pos_of_mem hp) (by omega),fun _=>nlr _⟩
 | n+1,S,hl=>by
  classical
  by_cases hS:S=[]
  ·exact⟨fun _=>0,fun p hp=>(by rw[hS] at hp;cases hp),fun _=>gp _⟩
  have Tw:¬ qi9 E S:=fun h=>by
   obtain⟨p,_,hp⟩:=q1g E S.length S (nlr _) h;exact hE p hp
  obtain⟨p,hp,dA⟩ : ∃ p∈S,∀ q∈S,¬ E p q:=by
   apply gR;intro h;refine Tw ⟨hS,fun p hp=>?_⟩;apply gR;intro h2;exact h ⟨p,hp,fun q hq he=>h2 ⟨q,hq,he⟩⟩
  have hlt:(S.filter fun q=>!decide (q=p)).length < S.length:=List.length_filter_lt_length_iff_exists.2 ⟨p,hp,by simp⟩;obtain⟨r,h1,h2⟩:=qed E hE n (S.filter fun q=>!decide (q=p)) (by omega);refine⟨fun x=>if x=p then 0 else r x+1,fun x hx y hy he=>?_,fun x=>?_⟩
  ·have On:x≠p:=fun e=>dA y hy (e ▸ he)
   show (if y=p then 0 else r y+1) < if x=p then 0 else r x+1
   rw[if_neg On];by_cases hyp:y=p
   ·rw[if_pos hyp];omega
   ·rw[if_neg hyp];have:=h1 x (gH.2 ⟨hx,by simp[On]⟩) y (gH.2 ⟨hy,by simp[hyp]⟩) he;omega
  ·show (if x=p then 0 else r x+1)<=_;split
   ·omega
   ·have:=h2 x;omega
structure Wgt (K:List Cl) (hi:Int->Int) (W:Int->Nat):Prop where
 big:∀ c,hi c≠0->((K.map Cl.id).map fun d=>if d=c then 0 else (sgn K (hi c) d).natAbs*W d).sum+1<=W c
 pos:∀ d,0 < W d
 cap:∀ d,W d<=66 ^ (K.length+1)
theorem Good.nodup {K:List Cl} (G:Good K):(K.map Cl.id).Nodup:=by
 unfold List.Nodup;rw[List.pairwise_map];exact G.asc.imp fun h e=>by omega
theorem qct {K:List Cl} {hi lo:Int->Int} (G:Good K) (M:Mtc K hi lo) (Dg:∀ a,¬ yp K hi a):∃ W,Wgt K hi W:=by
 classical
 obtain⟨r,h1,h2⟩:=qed (Wy K hi) Dg K.length (K.map Cl.id) (by rw[gm];exact nlr _);have dN:∀ c,hi c≠0->c∈K.map Cl.id:=fun c hc=>by
  obtain⟨x,_,y,hy,_,rfl,_⟩:=G.jm (M.sg c hc);exact gE hy
 refine⟨fun d=>if hi d=0 then 1 else 66 ^ (r d+1),fun c hc=>?_,fun d=>?_,fun d=>?_⟩
 ·have cr:=M.sg c hc;obtain⟨x,hx,y,hy,Mv,sE,_⟩:=G.jm cr;have hs:zq K (hi c)=x.s:=by rw[<-Mv];exact q0b G.asc hx
  rw[if_neg hc];have a1:((K.map Cl.id).map fun d=>if d=c then 0 else (sgn K (hi c) d).natAbs*if hi d=0 then 1 else 66 ^ (r d+1)).sum<=((K.map Cl.id).map fun d=>if ∃ s∈x.s,s.c=d then (if d=c then 0 else if hi d=0 then 1 else 66 ^ (r d+1)) else 0).sum:=q4j fun d _=>by
   by_cases hd:d=c
   ·rw[if_pos hd];exact gp _
   ·rw[if_neg hd,if_neg hd];by_cases h0:sgn K (hi c) d=0
    ·rw[h0];simp
    ·obtain⟨s,ep,dh,_⟩:=q45 h0;rw[hs] at ep;rw[if_pos (c:=∃ s∈x.s,s.c=d) ⟨s,ep,dh⟩];rcases G.q2v h0 with e | e <;> rw[e] <;> simp
  have a2:=qfu G.nodup (fun d=>if d=c then 0 else if hi d=0 then 1 else 66 ^ (r d+1)) x.s;have a3:(x.s.map fun s=>(fun d=>if d=c then 0 else if hi d=0 then 1 else 66 ^ (r d+1)) s.c).sum<=x.s.length*66 ^ r c:=q9c fun s ep=>by
   show (if s.c=c then 0 else if hi s.c=0 then 1 else 66 ^ (r s.c+1))<=_;by_cases e1:s.c=c
   ·rw[if_pos e1];exact gp _
   ·rw[if_neg e1];by_cases e2:hi s.c=0
    ·rw[if_pos e2];exact Nat.one_le_pow _ _ (by omega)
    ·rw[if_neg e2];have:=h1 c (dN c hc) s.c (dN _ e2) ⟨⟨s,by rw[hs];exact ep,rfl⟩,e1,e2⟩;exact bt (by omega) this
  have a4:x.s.length*66 ^ r c<=64*66 ^ r c:=bw _ (G.few x hx);have a5:0 < 66 ^ r c:=Nat.pow_pos (by omega);have a6:66 ^ (r c+1)=66*66 ^ r c:=by rw[Nat.pow_succ,Nat.mul_comm]
  have a7:=gn a1 (gn a2 (gn a3 a4));rw[a6];omega
 ·show 0 < if hi d=0 then 1 else 66 ^ (r d+1)
  split
  ·omega
  ·exact Nat.pow_pos (by omega)
 ·show (if hi d=0 then 1 else 66 ^ (r d+1))<=_;split
  ·exact Nat.one_le_pow _ _ (by omega)
  ·exact bt (by omega) (by have:=h2 d;omega)
def stF (K:List Cl) (hi:Int->Int) (f:Int->Int) (c:Int):Int->Int:=fun d=>f d+bdD K (hi c) (-(sgn K (hi c) c)*f c) d
def stH (K:List Cl) (hi:Int->Int) (f h:Int->Int) (c:Int):Int->Int:=fun d=>h d+qw (hi c) (-(sgn K (hi c) c)*f c) d
def In0 (K:List Cl) (f:Int->Int):Prop:=∀ d,f d≠0->d∈K.map Cl.id
section
variable {K:List Cl} {hi lo:Int->Int}
theorem qmn (G:Good K) {f:Int->Int} (h:In0 K f) (c:Int):In0 K (stF K hi f c):=fun d hd=>by
 unfold stF at hd;rw[G.bdD] at hd;by_cases h0:f d=0
 ·have:sgn K (hi c) d≠0:=fun e=>hd (by rw[h0,e];simp)
  obtain⟨_,_,y,hy,_,rfl,_⟩:=G.jm this;exact gE hy
 ·exact h d h0
theorem qo8 (G:Good K) (M:Mtc K hi lo) {f h:Int->Int} (hh:In0 K h) {c:Int} (hc:hi c≠0):In0 K (stH K hi f h c):=fun d hd=>by
 unfold stH qw at hd;by_cases e:d=hi c
 ·obtain⟨x,hx,_,_,hb,_,_⟩:=G.jm (M.sg c hc);rw[e,<-hb];exact gE hx
 ·rw[if_neg e,bD] at hd;exact hh d hd
theorem qpb (G:Good K) (M:Mtc K hi lo) (f:Int->Int) {c:Int} (hc:hi c≠0):stF K hi f c c=0:=by
 unfold stF;rw[G.bdD];rcases G.q2v (M.sg c hc) with e | e <;> rw[e] <;> simp <;> omega
theorem qb8 (G:Good K) (M:Mtc K hi lo) {W:Int->Nat} (hW:Wgt K hi W) {f:Int->Int} (hf:In0 K f) {c:Int} (h1:f c≠0) (hc:hi c≠0) :
  Ph (K.map Cl.id) W (stF K hi f c)+(f c).natAbs<=Ph (K.map Cl.id) W f:=by
 have Fj:=hf c h1;have pw:∀ d∈K.map Cl.id,(stF K hi f c d).natAbs*W d+(if d=c then (f c).natAbs*W c else 0)<=(f d).natAbs*W d+(f c).natAbs*(if d=c then 0 else (sgn K (hi c) d).natAbs*W d):=fun d _=>by
  by_cases hd:d=c
  ·subst hd;rw[qpb G M f hc,if_pos rfl,if_pos rfl];simp
  ·rw[if_neg hd,if_neg hd];unfold stF;rw[G.bdD];have:(f d + -(sgn K (hi c) c)*f c*sgn K (hi c) d).natAbs<=(f d).natAbs+(f c).natAbs*(sgn K (hi c) d).natAbs:=by
    refine gn (Int.natAbs_add_le _ _) ?_;rw[Int.natAbs_mul,Int.natAbs_mul];rcases G.q2v (M.sg c hc) with e | e <;> rw[e] <;> simp
   have h2:=bw (W d) this;rw[Nat.add_mul,Nat.mul_assoc] at h2;exact h2
 have s1:=q4j pw;rw[sum_add,sum_add,qlm] at s1;have s2:=qcr (v:=(f c).natAbs*W c) Fj;have s3:=Nat.mul_le_mul_left (f c).natAbs (hW.big c hc);rw[Nat.mul_add,gK] at s3;unfold Ph;omega
theorem qo9 (G:Good K) (M:Mtc K hi lo) {W:Int->Nat} (hW:Wgt K hi W):∀ (n:Nat) (f h:Int->Int),Ph (K.map Cl.id) W f<=n->In0 K f->∃ k f' h',Clr K hi k f h f' h':=by
 intro n;induction n using Nat.strongRecOn with
 | _ n ih =>
 intro f h hn hf;have eF:(K.map Cl.id).Pairwise (· < ·):=by rw[List.pairwise_map];exact G.asc
 cases hF:(K.map Cl.id).find? fun c=>f c != 0 && hi c != 0 with
 | none =>
  refine⟨0,f,h,.done f h fun c hc=>?_⟩;have:=List.find?_eq_none.1 hF c (hf c hc);simp at this;exact this hc
 | some c =>
  have h1:=List.find?_some hF;simp at h1;have hlt:=qb8 G M hW hf h1.1 h1.2;have hp:0 < (f c).natAbs:=Int.natAbs_pos.2 h1.1;obtain⟨k,f',h',hC⟩:=ih (Ph (K.map Cl.id) W (stF K hi f c)) (by omega) (stF K hi f c) (stH K hi f h c) (nlr _) (qmn G hf c);refine⟨k+1,f',h',.step k f h f' h' c h1.1 h1.2 (fun d hd lZ=>?_) hC⟩;apply gR;intro Tx;have Oo:=hf d lZ;obtain⟨us,vs,cy,dA⟩:=(List.find?_eq_some_iff_append.1 hF).2;rw[cy] at Oo eF;rcases gF.1 Oo with hm | hm
  ·have:=dA d hm;simp at this;exact Tx (this.resolve_left lZ)
  ·obtain⟨_,h3,_⟩:=List.pairwise_append.1 eF;rcases gt.1 hm with rfl | hm
   ·omega
   ·have:=(gx.1 h3).1 d hm;omega
theorem qln:∀ {n:Nat} {f h f1 h1:Int->Int},Clr K hi n f h f1 h1->∀ {m:Nat} {f2 h2:Int->Int},Clr K hi m f h f2 h2->n=m/\f1=f2/\h1=h2:=by
 intro n f h f1 h1 a;induction a with
 | done f h h0 =>
  intro m f2 h2 b;cases b with
  | done _ _ _=>exact⟨rfl,rfl,rfl⟩
  | step _ _ _ _ _ c g1 g2 _ _=>exact absurd (h0 c g1) g2
 | step n f h f' h' c g1 g2 g3 _ ih =>
  intro m f2 h2 b;cases b with
  | done _ _ h0=>exact absurd (h0 c g1) g2
  | step m _ _ _ _ c' k1 k2 k3 k4 =>
   have Df:c=c':=by
    rcases Int.lt_trichotomy c c' with hl | he | hl
    ·exact absurd (k3 c hl g1) g2
    ·exact he
    ·exact absurd (g3 c' hl k1) k2
   subst Df;obtain⟨e1,e2,e3⟩:=ih k4;exact⟨by rw[e1],e2,e3⟩
end
section
variable {K:List Cl} {hi lo:Int->Int}
theorem q35 (f:Int->Int) (c v:Int):pu f c v c=v:=by unfold pu;rw[if_pos rfl]
theorem yz (f:Int->Int) {c d:Int} (v:Int) (h:d≠c):pu f c v d=f d:=by unfold pu;rw[if_neg h]
theorem q2c {a b:Int} : kc K hi lo a b=true↔sgn K b a≠0/\hi a=0/\lo a=0/\hi b=0/\lo b=0:=by
 unfold kc pdB;simp only [Bool.and_eq_true,bne_iff_ne,Bool.not_eq_true',Bool.or_eq_false_iff,bne_eq_false_iff_eq];constructor
 ·rintro ⟨⟨h1,h2,h3⟩,h4,h5⟩;exact⟨h1,h2,h3,h4,h5⟩
 ·rintro ⟨h1,h2,h3,h4,h5⟩;exact⟨⟨h1,h2,h3⟩,h4,h5⟩
theorem q6p (K:List Cl):Mtc K zz zz:=⟨fun _ h=>absurd rfl h,fun _ h=>absurd rfl h,fun _ h=>absurd rfl h,fun _ h=>absurd rfl h,rfl⟩
theorem q9d (G:Good K) (M:Mtc K hi lo) {a b:Int} (h:kc K hi lo a b=true):Mtc K (pu hi a b) (pu lo b a):=by
 obtain⟨h1,h2,h3,h4,h5⟩:=q2c.1 h;obtain⟨cy,ha,hb⟩:=G.q3h h1;refine⟨fun d hd=>?_,fun d hd=>?_,fun e he=>?_,fun d hd=>?_,?_⟩
 ·by_cases uV:d=a
  ·subst uV;rw[q35];exact h1
  ·rw[yz _ _ uV] at hd ⊢;exact M.sg d hd
 ·by_cases uV:d=a
  ·subst uV;rw[q35,q35]
  ·rw[yz _ _ uV] at hd ⊢;by_cases ag:hi d=b
   ·have:=M.hl d hd;rw[ag,h5] at this;have h6:=(G.q3h (M.sg d hd)).2.1;omega
   ·rw[yz _ _ ag];exact M.hl d hd
 ·by_cases Oq:e=b
  ·subst Oq;rw[q35,q35]
  ·rw[yz _ _ Oq] at he ⊢;by_cases hl:lo e=a
   ·have:=M.lh e he;rw[hl,h2] at this;rw[<-this,M.lz] at he;exact absurd rfl he
   ·rw[yz _ _ hl];exact M.lh e he
 ·by_cases uV:d=a
  ·subst uV;rw[yz _ _ cy];exact h3
  ·rw[yz _ _ uV] at hd;by_cases Ot:d=b
   ·subst Ot;exact absurd h4 hd
   ·rw[yz _ _ Ot];exact M.no d hd
 ·rw[yz _ _ (by omega)];exact M.lz
theorem q6q (G:Good K):∀ (m:List (Int×Int)) (hi lo:Int->Int) (st:(Int->Int)×(Int->Int)),Mtc K hi lo->xk K hi lo m=some st->Mtc K st.1 st.2
 | [],hi,lo,st,M,h=>by rw[xk] at h;cases h;exact M
 | p :: m,hi,lo,st,M,h=>by
  rw[xk] at h;split at h
  ·rename_i hf;exact q6q G m _ _ st (q9d G M hf) h
  ·cases h
theorem q14:∀ (m:List (Int×Int)) (hi lo:Int->Int) (p:Int×Int),xk K hi lo (m++[p])=(xk K hi lo m).bind fun st=>if kc K st.1 st.2 p.1 p.2 then some (pu st.1 p.1 p.2,pu st.2 p.2 p.1) else none
 | [],hi,lo,p=>by rw[List.nil_append,xk,xk];rfl
 | q :: m,hi,lo,p=>by
  rw[gV,xk,xk];split
  ·exact q14 m _ _ p
  ·rfl
theorem q3i {hi lo:Int->Int} : ∀ (m l:List (Int×Int)),xk K hi lo m=none->xk K hi lo (m++l)=none
 | [],l,h=>by rw[xk] at h;cases h
 | q :: m,l,h=>by
  rw[xk] at h;rw[gV,xk];split
  ·rename_i hf;rw[if_pos hf] at h;exact q3i m l h
  ·rfl
theorem q0e:∀ (m:List (Int×Int)) (hi lo:Int->Int) (st:(Int->Int)×(Int->Int)),xk K hi lo m=some st->∀ a,st.1 a≠0->hi a≠0\/∃ p∈m,p.1=a
 | [],hi,lo,st,h,a,ha=>by rw[xk] at h;cases h;exact .inl ha
 | p :: m,hi,lo,st,h,a,ha=>by
  rw[xk] at h;split at h
  ·rcases q0e m _ _ st h a ha with h1 | ⟨q,hq,he⟩
   ·by_cases hp:a=p.1
    ·exact .inr ⟨p,by simp,hp.symm⟩
    ·rw[yz _ _ hp] at h1;exact .inl h1
   ·exact .inr ⟨q,by simp[hq],he⟩
  ·cases h
theorem q46 (G:Good K) {a:Int} (h:yp K hi a):hi a≠0:=fun e=>by
 obtain⟨c,⟨⟨s,hs,_⟩,_⟩,_⟩:=q6d h;obtain⟨x,hx,h1,_⟩:=q0o hs;have:=G.pos x hx;omega
theorem qiq {a b:Int} (dA:∀ c,¬ yp K hi c) (h:¬ yp K (pu hi a b) a) (c:Int):¬ yp K (pu hi a b) c:=fun hc=>h (q6e (R:=Wy K hi) (x:=a) (fun p q hp hq hw=>by
 obtain⟨h1,h2,h3⟩:=hw;rw[yz _ _ hp] at h1;rw[yz _ _ hq] at h3;exact⟨h1,h2,h3⟩) dA hc)
theorem yl (G:Good K):∀ (m:List (Int×Int)) (hi lo:Int->Int) (st:(Int->Int)×(Int->Int)),xk K hi lo m=some st->(∀ a,hi a≠0->st.1 a=hi a)/\∀ p∈m,st.1 p.1=p.2/\p.2≠0
 | [],hi,lo,st,h=>by rw[xk] at h;cases h;exact⟨fun _ _=>rfl,fun p hp=>by cases hp⟩
 | q :: m,hi,lo,st,h=>by
  rw[xk] at h;split at h
  ·rename_i hf;obtain⟨f1,f2,f3,f4,f5⟩:=q2c.1 hf;have hq:=(G.q3h f1).2.2;obtain⟨h1,h2⟩:=yl G m _ _ st h;refine⟨fun a ha=>?_,fun p hp=>?_⟩
   ·have ak:a≠q.1:=fun e=>ha (e ▸ f2)
    have:=h1 a (by rw[yz _ _ ak];exact ha);rw[this,yz _ _ ak]
   ·rcases gt.1 hp with rfl | hp
    ·have:=h1 p.1 (by rw[q35];omega);rw[this,q35];exact⟨rfl,by omega⟩
    ·exact h2 p hp
  ·cases h
theorem q4r {K:List Cl} {n:Nat} (h:∀ x∈K,x.s.length<=n):(K.flatMap fun x=>x.s.map Sd.c).length<=K.length*n:=by
 induction K with
 | nil=>simp
 | cons x K ih =>
  have h1:=h x (by simp);have h2:=ih fun y hy=>h y (by simp[hy])
  rw[List.flatMap_cons,gl,gm,gD,Nat.succ_mul];omega
noncomputable def opE (K:List Cl) (m:List (Int×Int)):Int:=if (chk K).2=0 then j8 (canon K) m else (chk K).2
theorem qir {K:List Cl} (h:(chk K).2=0):chk K=(0,0):=by
 unfold chk at h ⊢;split
 ·rename_i h4;rw[if_pos h4] at h;cases h
 ·rename_i h4;rw[if_neg h4] at h;cases hc:q0a (cAt K) 0 (canon K) with
  | some e=>rw[hc] at h;exact absurd h (q1i hc)
  | none =>
   rw[hc] at h;have h:((k9 (cAt K) (canon K)).getD (0,0)).2=0:=h;show (k9 (cAt K) (canon K)).getD (0,0)=(0,0)
   have key:∀ (l:List Cl) (e:Int×Int),k9 (cAt K) l=some e->e.2≠0:=fun l=>by
    induction l with
    | nil=>intro e h;cases h
    | cons x l ih =>
     intro e he;unfold k9 at he;split at he
     ·rename_i hx;cases he;exact hx.2
     ·exact ih e he
   cases h2:k9 (cAt K) (canon K) with
   | none=>rfl
   | some e=>rw[h2] at h;exact absurd h (key _ e h2)
theorem qlo (G:Good K) (M:Mtc K hi lo) {W:Int->Nat} (hW:Wgt K hi W) {f h:Int->Int} (hf:In0 K f) {c:Int} (h1:f c≠0) (hc:hi c≠0) :
  Ph (K.map Cl.id) W (stF K hi f c)+Ph (K.map Cl.id) (fun _=>1) (stH K hi f h c)<=Ph (K.map Cl.id) W f+Ph (K.map Cl.id) (fun _=>1) h:=by
 have s1:=qb8 G M hW hf h1 hc;have s2:Ph (K.map Cl.id) (fun _=>1) (stH K hi f h c)<=Ph (K.map Cl.id) (fun _=>1) h+(f c).natAbs:=by
  unfold Ph;have:∀ d∈K.map Cl.id,(stH K hi f h c d).natAbs*1<=(h d).natAbs*1+(if d=hi c then (f c).natAbs else 0):=fun d _=>by
   unfold stH qw;by_cases e:d=hi c
   ·rw[if_pos e,if_pos e];rcases G.q2v (M.sg c hc) with e | e <;> rw[e] <;> omega
   ·rw[if_neg e,if_neg e];simp
  have h3:=q4j this;rw[sum_add] at h3;have h4:=q6o (c:=hi c) (v:=(f c).natAbs) G.nodup;exact gn h3 (Nat.add_le_add_left h4 _)
 omega
theorem qpc {W:Int->Nat} (hW:∀ d,0 < W d) {f:Int->Int} (hf:In0 K f) (d:Int):(f d).natAbs<=Ph (K.map Cl.id) W f:=by
 by_cases h:f d=0
 ·rw[h];exact gp _
 ·refine gn ?_ (qcs (g:=fun d=>(f d).natAbs*W d) (hf d h));exact Nat.le_mul_of_pos_right _ (hW d)
theorem qoa {W:Int->Nat} (hW:Wgt K hi W) {f:Int->Int} {S:Nat} (hS:∀ d,nb (f d)<=S) (hl:K.length<=65535):Ph (K.map Cl.id) W f < 256 ^ (S+K.length+3):=by
 have key:∀ U:List Int,Ph U W f<=U.length*(256 ^ S*66 ^ (K.length+1)):=fun U=>by
  induction U with
  | nil=>simp[Ph]
  | cons a U ih =>
   have h1:(f a).natAbs*W a<=256 ^ S*66 ^ (K.length+1):=Nat.mul_le_mul (gn (Nat.le_of_lt (q5n (f a))) (bt (by omega) (hS a))) (hW.cap a);unfold Ph at ih ⊢;rw[gN,bh,gD,Nat.succ_mul];omega
 have h1:=key (K.map Cl.id);rw[gm] at h1;have h2:K.length*(256 ^ S*66 ^ (K.length+1))<=65535*(256 ^ S*256 ^ (K.length+1)):=Nat.mul_le_mul hl (Nat.mul_le_mul_left _ (Nat.pow_le_pow_left (by omega) _));have h3:256 ^ (S+K.length+3)=65536*(256 ^ S*256 ^ (K.length+1)):=by
  rw[show S+K.length+3=S+(K.length+1)+2 by omega,Nat.pow_add,Nat.pow_add,Nat.mul_comm]
 have h4:0 < 256 ^ S*256 ^ (K.length+1):=Nat.mul_pos (Nat.pow_pos (by omega)) (Nat.pow_pos (by omega));rw[h3];generalize 256 ^ S*256 ^ (K.length+1)=X at *;omega
theorem qb9 {f:Int->Int} {B T:Nat} {W:Int->Nat} (hW:∀ d,0 < W d) (hf:In0 K f) (hB:Ph (K.map Cl.id) W f<=B) (hT:B < 256 ^ T) (d:Int):nb (f d)<=T:=q31 _ _ (Nat.lt_of_le_of_lt (gn (qpc hW hf d) hB) hT)
theorem qee {n:Nat} {f h f' h':Int->Int} (k:Clr K hi n f h f' h'):(n=0/\f'=f/\h'=h/\∀ c,f c≠0->hi c=0)\/∃ m c,n=m+1/\f c≠0/\hi c≠0/\(∀ d,d < c->f d≠0->hi d=0)/\Clr K hi m (stF K hi f c) (stH K hi f h c) f' h':=by
 cases k with
 | done _ _ h0=>exact .inl ⟨rfl,rfl,rfl,h0⟩
 | step m _ _ _ _ c h1 h2 h3 h4=>exact .inr ⟨m,c,rfl,h1,h2,h3,h4⟩
theorem qfv {n:Nat} {L:List (Int×Int)} {h f' h':Int->Int} (k:Clr K hi n (co L) h f' h') (hL:Cn L) {j:Nat} {p:Int×Int} (hj:L[j]? = some p) (hp:hi p.1≠0) (hb:∀ q∈L.take j,hi q.1=0) :
  ∃ m,n=m+1/\Clr K hi m (stF K hi (co L) p.1) (stH K hi (co L) h p.1) f' h':=by
 have hm:=gd hj;have o9:co L p.1≠0:=by rw[zl hL.1 hm];exact hL.2 p hm
 rcases qee k with ⟨_,_,_,h0⟩ | ⟨m,c,e,h1,h2,h3,h4⟩
 ·exact absurd (h0 _ o9) hp
 ·have hc:c=p.1:=by
   rcases Int.lt_trichotomy c p.1 with hl | he | hl
   ·obtain⟨q,hq,rfl,_⟩:=qca h1;obtain⟨i,ow,rfl⟩:=List.getElem_of_mem hq;obtain⟨dP,rfl⟩:=gc.1 hj;have dS:i < j:=by
     rcases Nat.lt_trichotomy i j with h | h | h
     ·exact h
     ·subst h;omega
     ·have:=gG.1 hL.1 j i dP ow h;omega
    exact absurd (hb _ (List.mem_take_iff_getElem.2 ⟨i,by omega,rfl⟩)) h2
   ·exact he
   ·exact absurd (h3 _ hl o9) hp
  subst hc;exact⟨m,e,h4⟩
theorem qlp {n:Nat} {L:List (Int×Int)} {h f' h':Int->Int} (k:Clr K hi n (co L) h f' h') (hb:∀ q∈L,hi q.1=0):f'=co L/\h'=h:=by
 rcases qee k with ⟨_,e1,e2,_⟩ | ⟨m,c,_,h1,h2,_,_⟩
 ·exact⟨e1,e2⟩
 ·obtain⟨q,hq,rfl,_⟩:=qca h1;exact absurd (hb q hq) h2
open Classical in
noncomputable def q79 (K:List Cl) (hi:Int->Int) (f:Int->Int):(Int->Int)×(Int->Int) :=
 if h:∃ p:(Int->Int)×(Int->Int),∃ n,Clr K hi n f zz p.1 p.2 then h.choose else (f,zz)
theorem q9e {n:Nat} {f f' h':Int->Int} (h:Clr K hi n f zz f' h'):q79 K hi f=(f',h'):=by
 have he:∃ p:(Int->Int)×(Int->Int),∃ n,Clr K hi n f zz p.1 p.2:=⟨(f',h'),n,h⟩
 unfold q79;rw[dif_pos he];obtain⟨m,hm⟩:=he.choose_spec;obtain⟨_,e1,e2⟩:=qln hm h;exact Prod.ext e1 e2
theorem q9f (G:Good K) (M:Mtc K hi lo) (Dg:∀ a,¬ yp K hi a) {f:Int->Int} (hf:In0 K f):∃ n,Clr K hi n f zz (q79 K hi f).1 (q79 K hi f).2:=by
 obtain⟨W,hW⟩:=qct G M Dg;obtain⟨n,f',h',h⟩:=qo9 G M hW _ f zz (nlr _) hf;rw[q9e h];exact⟨n,h⟩
def q1m (K:List Cl) (f:Int->Int):Int->Int:=fun d=>if jv K d then f d else 0
noncomputable def q85 (K:List Cl) (hi lo f:Int->Int):Int->Int:=fun d=>if pdB hi lo d then 0 else (q79 K hi (q1m K f)).1 d
noncomputable def upF (K:List Cl) (hi:Int->Int) (c:Int):Int->Int:=fun d=>qw c 1 d+(q79 K hi (bdD K c 1)).2 d
theorem qit (K:List Cl) (f:Int->Int):In0 K (q1m K f):=fun d hd=>by
 unfold q1m at hd;split at hd
 ·rename_i h;obtain⟨x,hx,he⟩:=List.any_eq_true.1 h;have he:x.id=d:=by simpa using he
  exact he ▸ gE hx
 ·exact absurd rfl hd
theorem qcu (G:Good K) (c x:Int):In0 K (bdD K c x):=fun d hd=>by
 rw[G.bdD] at hd;obtain⟨_,_,y,hy,_,rfl,_⟩:=G.jm (fun e=>hd (by rw[e,Int.mul_zero]));exact gE hy
end
theorem q9g:Good K1:=by
 have h:=q0d qcg;rw[show canon K1=K1 by rw[<-q3x];exact yh _ _] at h;exact h
theorem q9h:Good K2:=by
 have h:=q0d q4h;rw[show canon K2=K2 by rw[<-q3y];exact yh _ _] at h;exact h
theorem q4k {K:List Cl} (G:Good K) {b p g q k:Int} (h:zq K b=[⟨p,g⟩,⟨q,k⟩]) (zP:p≠q) (x d:Int):bdD K b x d=x*(if d=p then g else if d=q then k else 0):=by
 rw[G.bdD]
 congr 1
 unfold sgn;rw[h];unfold sgL;rw[q6n (fun t ht=>by simp at ht;subst ht;exact fun e=>zP e.symm),q6n (fun t ht=>by cases ht)];show (if p=d then some g else if q=d then some k else none:Option Int).getD 0=_;by_cases h1:p=d
 ·rw[if_pos h1,if_pos h1.symm];rfl
 ·rw[if_neg h1,if_neg (fun e:d=p=>h1 e.symm)];by_cases h2:q=d
  ·rw[if_pos h2,if_pos h2.symm];rfl
  ·rw[if_neg h2,if_neg (fun e:d=q=>h2 e.symm)];rfl
theorem q2d {K:List Cl} {hi:Int->Int} {n:Nat} {f h f1 h1 f' h':Int->Int} (c:Int) (a1:f c≠0) (a2:hi c≠0) (a3:∀ d,d < c->f d≠0->hi d=0)
  (e1:∀ d,f d+bdD K (hi c) (-(sgn K (hi c) c)*f c) d=f1 d) (e2:∀ d,h d+qw (hi c) (-(sgn K (hi c) c)*f c) d=h1 d) (k:Clr K hi n f1 h1 f' h'):Clr K hi (n+1) f h f' h':=by
 refine .step n f h f' h' c a1 a2 a3 ?_;rw[show (fun d=>f d+bdD K (hi c) (-(sgn K (hi c) c)*f c) d)=f1 from funext e1,show (fun d=>h d+qw (hi c) (-(sgn K (hi c) c)*f c) d)=h1 from funext e2];exact k
theorem q2e {c x d:Int} (h:qw c x d≠0):d=c:=by
 unfold qw at h;split at h
 ·assumption
 ·exact absurd rfl h
theorem qpd:Clr K1 hi1 1 (qw 2 1) zz (qw 3 1) (qw 6 1):=by
 refine q2d (f1:=qw 3 1) (h1:=qw 6 1) 2 (by decide) (by decide) (fun d hd hf=>by have:=q2e hf;omega) (fun d=>?_) (fun d=>?_) (.done _ _ fun d hd=>?_)
 ·rw[show hi1 2=6 from rfl,show -(sgn K1 6 2)*qw 2 1 2=1 by decide,q4k q9g (p:=2) (g:=-1) (q:=3) (k:=1) rfl (by omega)];unfold qw;by_cases h2:d=2
  ·subst h2;rfl
  ·by_cases h3:d=3
   ·subst h3;rfl
   ·simp[h2,h3]
 ·rw[show hi1 2=6 from rfl,show -(sgn K1 6 2)*qw 2 1 2=1 by decide];show (0:Int)+_=_;rw[Int.zero_add]
 ·rw[q2e hd];decide
theorem qpe:Clr K1 hi1 2 (qw 1 1) zz (qw 3 1) (fun d=>qw 4 1 d+qw 6 1 d):=by
 refine q2d (f1:=qw 2 1) (h1:=qw 4 1) 1 (by decide) (by decide) (fun d hd hf=>by have:=q2e hf;omega) (fun d=>?_) (fun d=>?_) (q2d (f1:=qw 3 1) (h1:=fun d=>qw 4 1 d+qw 6 1 d) 2 (by decide) (by decide) (fun d hd hf=>by have:=q2e hf;omega) (fun d=>?_) (fun d=>?_) (.done _ _ fun d hd=>?_))
 ·rw[show hi1 1=4 from rfl,show -(sgn K1 4 1)*qw 1 1 1=1 by decide,q4k q9g (p:=1) (g:=-1) (q:=2) (k:=1) rfl (by omega)];unfold qw;by_cases h2:d=1
  ·subst h2;rfl
  ·by_cases h3:d=2
   ·subst h3;rfl
   ·simp[h2,h3]
 ·rw[show hi1 1=4 from rfl,show -(sgn K1 4 1)*qw 1 1 1=1 by decide];show (0:Int)+_=_;rw[Int.zero_add]
 ·rw[show hi1 2=6 from rfl,show -(sgn K1 6 2)*qw 2 1 2=1 by decide,q4k q9g (p:=2) (g:=-1) (q:=3) (k:=1) rfl (by omega)];unfold qw;by_cases h2:d=2
  ·subst h2;rfl
  ·by_cases h3:d=3
   ·subst h3;rfl
   ·simp[h2,h3]
 ·rw[show hi1 2=6 from rfl,show -(sgn K1 6 2)*qw 2 1 2=1 by decide]
 ·rw[q2e hd];decide
theorem qba {K:List Cl} {c x:Int} (h:jv K c=true):q1m K (qw c x)=qw c x:=by
 funext d
 unfold q1m;by_cases hd:d=c
 ·subst hd;rw[if_pos h]
 ·split
  ·rfl
  ·unfold qw;rw[if_neg hd]
theorem q6r {hi lo:Int->Int} {K:List Cl} {c d:Int} (h:jv K c=true) {n:Nat} {h':Int->Int} (k:Clr K hi n (qw c 1) zz (qw d 1) h') (hd:pdB hi lo d=false):q85 K hi lo (qw c 1)=qw d 1:=by
 unfold q85;rw[qba h,q9e k];funext e
 by_cases he:e=d
 ·subst he;rw[hd];rfl
 ·have hz:qw d 1 e=0:=by unfold qw;rw[if_neg he]
  rw[hz];split
  ·rfl
  ·exact hz
theorem qob:q85 K1 hi1 lo1 (qw 1 1)=qw 3 1:=q6r (by decide) qpe (by decide)
theorem qoc:q85 K1 hi1 lo1 (qw 2 1)=qw 3 1:=q6r (by decide) qpd (by decide)
theorem qq6:upF K2 hi2 5=fun d=>if d=5 then 1 else if d=4 then -1 else if d=6 then -1 else 0:=by
 have hb:bdD K2 5 1=fun d=>if d=1 then -1 else if d=3 then 1 else 0:=funext fun d=>by
  rw[q4k q9h (p:=1) (g:=-1) (q:=3) (k:=1) rfl (by omega),Int.one_mul]
 have k:Clr K2 hi2 2 (bdD K2 5 1) zz zz (fun d=>qw 4 (-1) d+qw 6 (-1) d):=by
  rw[hb];refine q2d (f1:=fun d=>if d=2 then -1 else if d=3 then 1 else 0) (h1:=qw 4 (-1)) 1 (by decide) (by decide) (fun d hd hf=>?_) (fun d=>?_) (fun d=>?_) (q2d (f1:=zz) (h1:=fun d=>qw 4 (-1) d+qw 6 (-1) d) 2 (by decide) (by decide) (fun d hd hf=>?_) (fun d=>?_) (fun d=>?_) (.done _ _ fun d hd=>absurd rfl hd))
  ·have hf:(if d=1 then (-1:Int) else if d=3 then 1 else 0)≠0:=hf;rw[if_neg (by omega),if_neg (by omega)] at hf;exact absurd rfl hf
  ·rw[show hi2 1=4 from rfl,show -(sgn K2 4 1)*(if (1:Int)=1 then (-1:Int) else if (1:Int)=3 then 1 else 0) = -1 by decide,q4k q9h (p:=1) (g:=-1) (q:=2) (k:=1) rfl (by omega)];by_cases h1:d=1
   ·subst h1;rfl
   ·by_cases h2:d=2
    ·subst h2;rfl
    ·simp[h1,h2]
  ·rw[show hi2 1=4 from rfl,show -(sgn K2 4 1)*(if (1:Int)=1 then (-1:Int) else if (1:Int)=3 then 1 else 0) = -1 by decide];show (0:Int)+_=_;rw[Int.zero_add]
  ·have hf:(if d=2 then (-1:Int) else if d=3 then 1 else 0)≠0:=hf;rw[if_neg (by omega),if_neg (by omega)] at hf;exact absurd rfl hf
  ·rw[show hi2 2=6 from rfl,show -(sgn K2 6 2)*(if (2:Int)=2 then (-1:Int) else if (2:Int)=3 then 1 else 0) = -1 by decide,q4k q9h (p:=2) (g:=-1) (q:=3) (k:=1) rfl (by omega)];by_cases h1:d=2
   ·subst h1;rfl
   ·by_cases h2:d=3
    ·subst h2;rfl
    ·simp[h1,h2,zz]
  ·rw[show hi2 2=6 from rfl,show -(sgn K2 6 2)*(if (2:Int)=2 then (-1:Int) else if (2:Int)=3 then 1 else 0) = -1 by decide]
 unfold upF;rw[q9e k];funext d
 show qw 5 1 d+(qw 4 (-1) d+qw 6 (-1) d)=_;unfold qw;by_cases h5:d=5
 ·subst h5;rfl
 ·by_cases h4:d=4
  ·subst h4;rfl
  ·by_cases h6:d=6
   ·subst h6;rfl
   ·simp[h4,h5,h6]
section
variable {K:List Cl} {hi lo:Int->Int}
def q86 (K:List Cl) (e:Int) (f:Int->Int):Prop:=∀ d,f d≠0->∃ x∈K,x.id=d/\x.dim=e
theorem Good.qlq (G:Good K) {b a:Int} (h:sgn K b a≠0) {e:Int} (ha:∃ x∈K,x.id=a/\x.dim=e):∃ y∈K,y.id=b/\y.dim=e+1:=by
 obtain⟨x,hx,y,hy,h1,h2,h3⟩:=G.jm h;obtain⟨z,hz,h4,h5⟩:=ha;have:=q6c G.asc hy hz (h2.trans h4.symm);subst this;exact⟨x,hx,h1,by omega⟩
theorem Good.qlr (G:Good K) {b a:Int} (h:sgn K b a≠0) {e:Int} (hb:∃ x∈K,x.id=b/\x.dim=e+1):∃ y∈K,y.id=a/\y.dim=e:=by
 obtain⟨x,hx,y,hy,h1,h2,h3⟩:=G.jm h;obtain⟨z,hz,h4,h5⟩:=hb;have:=q6c G.asc hx hz (h1.trans h4.symm);subst this;exact⟨y,hy,h2,by omega⟩
theorem qef (G:Good K) {c x e:Int} (hc:∃ y∈K,y.id=c/\y.dim=e+1):q86 K e (bdD K c x):=fun d hd=>by
 rw[G.bdD] at hd;exact G.qlr (fun h=>hd (by rw[h,Int.mul_zero])) hc
theorem qls (G:Good K) (M:Mtc K hi lo) {e:Int} {n:Nat} {f h f' h':Int->Int} (k:Clr K hi n f h f' h'):q86 K e f->q86 K (e+1) h->q86 K e f'/\q86 K (e+1) h':=by
 induction k with
 | done f h _=>exact fun a b=>⟨a,b⟩
 | step n f h f' h' c h1 h2 _ _ ih =>
  intro a b;have hb:=G.qlq (M.sg c h2) (a c h1);refine ih (fun d hd=>?_) (fun d hd=>?_)
  ·by_cases hf:f d=0
   ·exact qef G hb d fun h0=>hd (by show f d+_=0;rw[hf,h0,Int.zero_add])
   ·exact a d hf
  ·by_cases hf:h d=0
   ·have dn:d=hi c:=by
     apply gR;intro ak;exact hd (by show h d+qw _ _ d=0;unfold qw;rw[hf,if_neg ak];rfl)
    rw[dn];exact hb
   ·exact b d hf
theorem Good.cells (G:Good K):canon K=K/\cellsOf K=K:=by
 have h1:canon K=K:=q1j G.asc fun x hx=>(G.sasc x hx).imp fun h=>by omega
 refine⟨h1,?_⟩;unfold cellsOf;rw[h1,q08 G.asc]
theorem Good.ids (G:Good K) (d:Int):q04 K d=(K.filter fun x=>x.dim == d).map Cl.id:=by
 unfold q04;rw[G.cells.2]
theorem Good.qlt (G:Good K) {c d:Int} : c∈q04 K d↔∃ x∈K,x.id=c/\x.dim=d:=by
 rw[G.ids,go];constructor
 ·rintro ⟨x,hx,rfl⟩;obtain⟨h1,h2⟩:=gH.1 hx;exact⟨x,h1,rfl,by simpa using h2⟩
 ·rintro ⟨x,hx,rfl,hd⟩;exact⟨x,gH.2 ⟨hx,by simpa using hd⟩,rfl⟩
theorem qel {f:Int->Int} (h:In0 K f):q1m K f=f:=by
 funext d
 unfold q1m;split
 ·rfl
 ·rename_i hh;apply gR;intro ak;obtain⟨x,hx,rfl⟩:=go.1 (h d fun e=>ak e.symm);exact hh (List.any_eq_true.2 ⟨x,hx,by simp⟩)
theorem qgi (G:Good K) (M:Mtc K hi lo) (Dg:∀ a,¬ yp K hi a) {c e:Int} (hc:∃ y∈K,y.id=c/\y.dim=e+1) {d:Int} (hd:q85 K hi lo (bdD K c 1) d≠0):d∈q27 K hi lo e:=by
 unfold q85 at hd;rw[qel (qcu G c 1)] at hd;split at hd
 ·exact absurd rfl hd
 ·rename_i hp;obtain⟨n,k⟩:=q9f G M Dg (qcu G c 1);have h1:=(qls G M k (qef G hc) (fun d hd=>absurd rfl hd)).1 d hd;unfold q27;exact gH.2 ⟨G.qlt.2 h1,by simpa using hp⟩
theorem qp5 (G:Good K) (d:Int):(q27 K hi lo d).Pairwise (· < ·):=by
 unfold q27;refine List.Pairwise.filter _ ?_;rw[G.ids,List.pairwise_map];exact G.asc.filter _
theorem qiu (G:Good K) {c d:Int} : c∈q27 K hi lo d↔(∃ x∈K,x.id=c/\x.dim=d)/\pdB hi lo c=false:=by
 unfold q27;rw[gH,G.qlt];simp
theorem qbb (K:List Cl):j8 K []=0:=by
 unfold j8;rw[xk];exact if_neg fun ⟨p,hp,_⟩=>by cases hp
end
end Go.Cx
