/- Steps towards SequenceChecks. Conditions: none. -/
import Derived.Test.YtmkpbhaoalbhjaaGreatDoorXQe
set_option maxRecDepth 1000000
set_option maxHeartbeats 0
open Option renaming some→Y
namespace Go.Cx
open Go.Proofs.YtmkpbhaoalbhjaaGreatDoor
structure Good (K:List Cl):Prop where
 asc:Asc K
 pos:∀x∈K,0<x.id
 sasc:∀x∈K,x.s.Pairwise fun s t=>s.c<t.c
 sg:∀x∈K,∀s∈x.s,s.g=1\/s.g=-1
 sub:∀x∈K,∀s∈x.s,∃y∈K,y.id=s.c/\y.dim=x.dim-1
 few:∀x∈K,x.s.length<=64
 len:K.length<=4000
theorem q2u {T:Int->Option Cl}{x:Cl}(h:xx T x=0):∀i,i<x.s.length->xq T x i=false:=by
 unfold xx at h;split at h
 ·cases h
 ·split at h
  ·cases h
  ·split at h
   ·cases h
   ·rename_i h3;intro i hi;cases hb:xq T x i with
    |false=>rfl
    |true=>exact absurd (List.any_eq_true.2 ⟨i,gF.2 hi,hb⟩) h3
theorem qco {l:List Sd}(h:Srt Sd.c l)(hn:∀i,0<i->∀(h1:i<l.length) (h2:i-1<l.length),l[i-1].c≠l[i].c):l.Pairwise fun s t=>s.c<t.c:=by
 induction l with
 |nil=>exact .nil
 |cons a l ih =>
  obtain⟨h1,h2⟩:=gJ.1 h;have ih:=ih h2 fun i hi g1 g2 e=>hn (i+1) (by omega) (by simp;omega) (by simp;omega) (by
   obtain⟨j,rfl⟩:∃j,i=j+1:=⟨i-1,by omega⟩
   exact e)
  refine gJ.2 ⟨fun t ht=>?_,ih⟩;cases l with
  |nil=>cases ht
  |cons b l =>
   have pZ:=h1 b (by simp);have ah:=hn 1 (by omega) (by simp) (by simp);have ah:a.c≠b.c:=ah;rcases gH.1 ht with rfl|ht
   ·omega
   ·have:=(gJ.1 ih).1 t ht;omega
theorem q0d {K:List Cl}(h:chk K=(0,0)):Good (canon K):=by
 unfold chk at h;split at h
 ·cases h
 rename_i h4;cases hc:q0a (cAt K) 0 (canon K)with
 |some e =>rw[hc]at h;have:=q1i hc;have h2:e=(0,0):=h;rw[h2]at this;exact absurd rfl this
 |none =>
  obtain⟨h1,h2⟩:=q4f hc;have hA:Asc (canon K):=h2;have hT:∀c y,cAt K c=Y y->y∈canon K/\y.id=c:=fun c y hy=>by unfold cAt cellsOf at hy;rw[q08 hA]at hy;exact⟨gR hy,by simpa using List.find?_some hy⟩
  have uh:∀x∈canon K,Srt Sd.c x.s:=fun x hx=>by unfold canon at hx;obtain⟨y,_,rfl⟩:=gj.1 hx;exact q8r _
  refine⟨hA,fun x hx=>(h1 x hx).1,fun x hx=>?_,fun x hx=>(q1l (h1 x hx).2).2.1,fun x hx s hs=>?_,fun x hx=>(q1l (h1 x hx).2).1,by rw[q0z];exact gd (Nat.le_of_not_lt fun h=>h4 (.inl h)) (by decide)⟩
  ·refine qco (uh x hx) fun i hi g1 g2 e=>?_
   have:=q2u (h1 x hx).2 i g1;unfold xq at this;rw[gg g1,gg g2]at this;simp only [Bool.or_eq_false_iff,Bool.and_eq_false_iff,decide_eq_false_iff_not]at this;rcases this.2 with h5|h5
   ·exact h5 hi
   ·simp[e]at h5
  ·obtain⟨i,hi,rfl⟩:=List.getElem_of_mem hs;have:=q2u (h1 x hx).2 i hi;unfold xq at this;rw[gg hi]at this;simp only [Bool.or_eq_false_iff]at this;cases hy:cAt K x.s[i].c with
   |none=>rw[hy]at this;cases this.1
   |some y =>rw[hy]at this;obtain⟨g1,g2⟩:=hT _ _ hy;exact⟨y,g1,g2,by simpa using this.1⟩
section
variable {K:List Cl}{hi lo:Int->Int}
theorem q0o {c:Int}{s:Sd}(hs:s∈zq K c):∃x∈K,x.id=c/\s∈x.s:=by
 unfold zq at hs;cases hf:K.find? (fun x=>x.id == c)with
 |none=>rw[hf]at hs;cases hs
 |some x =>rw[hf]at hs;exact⟨x,gR hf,by simpa using List.find?_some hf,hs⟩
theorem qll {l:List Sd}{c:Int}(h:sgL l c≠0):∃s∈l,s.c=c/\s.g=sgL l c:=by
 unfold sgL at h ⊢;cases hs:sgO l c with
 |none=>rw[hs]at h;exact absurd rfl h
 |some g=>exact qe3 hs
theorem q9b {l:List Sd}{c:Int}(h:∀s∈l,s.c≠c):se l c=0:=by
 induction l with
 |nil=>rfl
 |cons s l ih =>show (if s.c=c then s.g else 0)+se l c=0;rw[if_neg (h s (by simp)),ih fun t ht=>h t (by simp[ht])];rfl
theorem q6n {l:List Sd}{s:Sd}{c:Int}(h:∀t∈l,t.c≠s.c):sgO (s :: l) c=if s.c=c then Y s.g else sgO l c:=by
 unfold sgO;rw[List.reverse_cons,List.find?_append];by_cases hc:s.c=c
 ·rw[if_pos hc];have h1:l.reverse.find? (fun s=>s.c == c)=none:=List.find?_eq_none.2 fun t ht=>by have:=h t (by simpa using ht);simp;omega
  rw[h1];simp[hc]
 ·rw[if_neg hc];have h1:[s].find? (fun s=>s.c == c)=none:=by simp[hc]
  rw[h1];simp
theorem qcp {l:List Sd}(h:l.Pairwise fun s t=>s.c<t.c)(c:Int):se l c=sgL l c:=by
 induction l with
 |nil=>rfl
 |cons s l ih =>
  obtain⟨h1,h2⟩:=gJ.1 h;have h3:∀t∈l,t.c≠s.c:=fun t ht=>by have:=h1 t ht;omega
  show (if s.c=c then s.g else 0)+se l c=_;unfold sgL;rw[q6n h3];by_cases hc:s.c=c
  ·rw[if_pos hc,if_pos hc,q9b fun t ht=>hc ▸ h3 t ht];simp
  ·rw[if_neg hc,if_neg hc,ih h2];simp[sgL]
theorem q83 (f:Int->Int)(r:Int)(h:∀x∈K,f x.id=0):q1q f r K=0:=by
 induction K with
 |nil=>rfl
 |cons x K ih =>show f x.id*_+q1q f r K=0;rw[h x (by simp),ih fun y hy=>h y (by simp[hy]),Int.zero_mul];rfl
theorem qcq (hA:Asc K)(c x r:Int):q1q (qw c x) r K=x*se (zq K c) r:=by
 induction K with
 |nil=>show (0:Int)=x*0;rw[Int.mul_zero]
 |cons y K ih =>
  obtain⟨h1,h2⟩:=gJ.1 hA;show qw c x y.id*se y.s r+q1q (qw c x) r K=_;unfold zq;rw[List.find?_cons];by_cases hy:y.id=c
  ·have:(y.id == c)=true:=by simpa using hy
   rw[this];show _=x*se y.s r;rw[q83 _ _ fun z hz=>?_,bA]
   ·unfold qw;rw[if_pos hy]
   ·unfold qw;rw[if_neg];have:=h1 z hz;omega
  ·have:(y.id == c)=false:=by simpa using hy
   rw[this];show _=x*se (zq K c) r;rw[<-ih h2];unfold qw;rw[if_neg hy,Int.zero_mul,Int.zero_add]
end
theorem Good.nodup {K:List Cl}(G:Good K):(K.map Cl.id).Nodup:=by unfold List.Nodup;rw[List.pairwise_map];exact G.asc.imp fun h e=>by omega
section
variable {K:List Cl}{hi lo:Int->Int}
end
section
variable {K:List Cl}{hi lo:Int->Int}
end
section
variable {K:List Cl}{hi lo:Int->Int}
theorem Good.cells (G:Good K):canon K=K/\cellsOf K=K:=by
 have h1:canon K=K:=q1j G.asc fun x hx=>(G.sasc x hx).imp fun h=>by omega
 refine⟨h1,?_⟩;unfold cellsOf;rw[h1,q08 G.asc]
theorem Good.ids (G:Good K)(d:Int):q04 K d=(K.filter fun x=>x.dim == d).map Cl.id:=by unfold q04;rw[G.cells.2]
theorem Good.qlt (G:Good K){c d:Int} : c∈q04 K d↔∃x∈K,x.id=c/\x.dim=d:=by
 rw[G.ids,gj];constructor
 ·rintro ⟨x,hx,rfl⟩;obtain⟨h1,h2⟩:=gS.1 hx;exact⟨x,h1,rfl,by simpa using h2⟩
 ·rintro ⟨x,hx,rfl,hd⟩;exact⟨x,gS.2 ⟨hx,by simpa using hd⟩,rfl⟩
end
