/- Steps towards SequenceChecks. Conditions: none. -/
import Derived.Laws.CopyOwn
import Derived.Test.YtmkpbhaoalbhjaaGreatDoorXQg
import Derived.Test.YtmkpbhaoalbhjaaGreatDoorXRd
set_option maxRecDepth 1000000
set_option maxHeartbeats 0
open Option renaming none→Z,some→Y
namespace Go.Cx
open Go.Proofs.YtmkpbhaoalbhjaaGreatDoor
def nId (K:List Cl)(d:Int):Nat:=(q04 K d).length
def bdP (p:Int)(K:List Cl)(d:Int):List (List Int):=(q04 K (d-1)).map fun r=>(q04 K d).map fun c=>se (zq K c) r%p
theorem qob {p:Int}(hp:0<p)(R C:List Int)(f:Int->Int->Int):FM p R.length C.length (R.map fun r=>C.map fun c=>f c r%p) :=
 ⟨by simp,fun x hx=>(by obtain⟨r,_,rfl⟩:=gj.1 hx;simp),fun x hx n hn=>(by obtain⟨r,_,rfl⟩:=gj.1 hx;obtain⟨c,_,rfl⟩:=gj.1 hn;exact q7b _ hp)⟩
theorem qav {p:Int}(hp:0<p)(K:List Cl)(d:Int):FM p (nId K (d-1)) (nId K d) (bdP p K d):=qob hp _ _ fun c r=>se (zq K c) r
theorem qbl {p:Int}(hp:0<p)(K:List Cl)(d:Int):FM p (nId K d) (nId K (d+1)) (bdP p K (d+1)):=by
 have h:=qav hp K (d+1)
 rwa [Int.add_sub_cancel]at h
def qcr (p:Int)(K:List Cl)(d:Int):List (List Int):=q37 p (nId K d) (bdP p K d)
def qK (p:Int)(K:List Cl)(d:Int):Nat:=(q2n (nId K d) (jk p (nId K d) (bdP p K d)).2).length
def q9e (p:Int)(K:List Cl)(d:Int):List (List Int):=qnz p (nId K (d+1)) (bdP p K (d+1))
def bK (p:Int)(K:List Cl)(d:Int):Nat:=(jk p (nId K (d+1)) (bdP p K (d+1))).2.length
def qaw (p:Int)(K:List Cl)(d:Int):List Nat:=qg2 p (bK p K d) (qK p K d) (q9e p K d) (qcr p K d)
def hK (p:Int)(K:List Cl)(d:Int):Nat:=(qaw p K d).length
def q24 (p:Int)(K:List Cl)(d:Int):List (List Int):=q3v (qcr p K d) (qaw p K d)
section
variable {p:Int}(K:List Cl)(d:Int)
theorem qbp (hp:1<p):FM p (nId K d) (qK p K d) (qcr p K d):=qcj hp
theorem q9f (hp:prN p.toNat=true):FM p (nId K d) (bK p K d) (q9e p K d)/\True :=
 have cp:0<p:=by have:=(yi.1 hp).1;omega
 ⟨qbk (qbl cp K d) (q0s cp (qbl cp K d)).2.2.1,trivial⟩
theorem qkw (hp:prN p.toNat=true):∀j∈qaw p K d,j<qK p K d :=
 qt5 hp (q9f K d hp).1 (qbp K d (by have:=(yi.1 hp).1;omega))
theorem qkx (hp:prN p.toNat=true):FM p (nId K d) (hK p K d) (q24 p K d) :=
 qbk (qbp K d (by have:=(yi.1 hp).1;omega)) (qkw K d hp)
theorem qst (hp:prN p.toNat=true):bK p K d<=nId K (d+1)/\bK p K d<=nId K d:=by
 have cp:0<p:=by have:=(yi.1 hp).1;omega
 obtain⟨_,h1,h2,h3⟩:=q0s cp (qbl cp K d);refine⟨?_,h1⟩;have h5:=q9d h3 (nId K (d+1));rw[List.filter_eq_self.2 (fun x hx=>by simpa using h2 x hx)]at h5;unfold bK;omega
end
def sdB (s t:Sd):Bool:=s.c == t.c && s.g == t.g
def qbg:List Sd->List Sd->Bool
 |[],[]=>true
 |s :: l,t :: m=>sdB s t && qbg l m
 |[],_ :: _=>false
 |_ :: _,[]=>false
def clB (x y:Cl):Bool:=x.id == y.id && (x.dim == y.dim && qbg x.s y.s)
theorem qrb {s t:Sd} : sdB s t=true↔s=t:=by
 unfold sdB;rw[gM,beq_iff_eq,beq_iff_eq];constructor
 ·rintro ⟨h1,h2⟩;cases s;cases t;simp_all
 ·rintro rfl;exact⟨rfl,rfl⟩
theorem q9g:∀ {l m:List Sd},qbg l m=true↔l=m
 |[],[]=>by simp[qbg]
 |s :: l,t :: m=>by unfold qbg;rw[gM,qrb,q9g,List.cons.injEq]
 |[],_ :: _=>by simp[qbg]
 |_ :: _,[]=>by simp[qbg]
def qcs (A B:List Cl):Option (List Cl) :=
 if (cellsOf A).any (fun x=>(cellsOf B).any fun y=>x.id == y.id && !clB x y)then Z
 else Y (canon (cellsOf A++(cellsOf B).filter fun y=>!(cellsOf A).any fun x=>x.id == y.id))
def q87 (A:List Cl)(a b:Int):Prop:=∃s∈zq A a,s.c=b
def q3x (A:List Cl):Nat->Int->List Int
 |0,c=>[c]
 |n+1,c=>c :: (zq A c).flatMap fun s=>q3x A n s.c
theorem qct (A:List Cl)(n:Nat)(c:Int):c∈q3x A n c:=by cases n <;> simp[q3x]
theorem qb7 {A:List Cl} : ∀ {n:Nat} {c d:Int},d∈q3x A n c->d=c\/Relation.TransGen (q87 A) c d
 |0,c,d,h=>.inl (by simpa [q3x]using h)
 |n+1,c,d,h=>by
  unfold q3x at h;rcases gH.1 h with h|h
  ·exact .inl h
  ·obtain⟨s,hs,h⟩:=List.mem_flatMap.1 h;have h1:q87 A c s.c:=⟨s,hs,rfl⟩
   rcases qb7 h with rfl|h
   ·exact .inr (.single h1)
   ·exact .inr ((Relation.TransGen.single h1).trans h)
def Dm (A:List Cl):Prop:=∀x∈A,0<=x.dim
theorem Good.step {A:List Cl}(G:Good A){a b:Int}(h:q87 A a b):∃x∈A,∃y∈A,x.id=a/\y.id=b/\y.dim=x.dim-1:=by obtain⟨s,hs,rfl⟩:=h;obtain⟨x,hx,ha,hm⟩:=q0o hs;obtain⟨y,hy,h1,h2⟩:=G.sub x hx s hm;exact⟨x,hx,y,hy,ha,h1,h2⟩
theorem qjd {A:List Cl}(G:Good A)(D:Dm A):∀ {n:Nat} {c d:Int} {x:Cl},x∈A->x.id=c->x.dim<=n->Relation.TransGen (q87 A) c d->d∈q3x A n c:=by
 intro n;induction n with
 |zero =>
  intro c d x hx hc hd h;have key:∃b,q87 A c b:=by
   clear hd;induction h with
   |single h=>exact⟨_,h⟩
   |tail _ _ ih=>exact ih
  obtain⟨b,hb⟩:=key;obtain⟨x',wQ,y,hy,h1,_,h3⟩:=G.step hb;have e:=q6c G.asc hx wQ (hc.trans h1.symm);subst e;have:=D y hy;omega
 |succ n ih =>
  intro c d x hx hc hd h;have key:∃b,q87 A c b/\(d=b\/Relation.TransGen (q87 A) b d):=by
   clear ih hd;induction h with
   |single h=>exact⟨_,h,.inl rfl⟩
   |tail _ h2 ih =>
    obtain⟨b,h3,h4⟩:=ih;refine⟨b,h3,.inr ?_⟩;rcases h4 with h4|h4
    ·subst h4;exact .single h2
    ·exact h4.tail h2
  obtain⟨b,hb,r9⟩:=key;obtain⟨x',wQ,y,hy,h1,h2,h3⟩:=G.step hb;have e:=q6c G.asc hx wQ (hc.trans h1.symm);subst e;obtain⟨s,hs,Ss⟩:=hb;unfold q3x;refine bm _ (List.mem_flatMap.2 ⟨s,hs,?_⟩);rw[Ss];rcases r9 with rfl|r9
  ·exact qct _ _ _
  ·exact ih hy h2 (by omega) r9
theorem qcu {A:List Cl}(G:Good A)(D:Dm A){x:Cl}(hx:x∈A)(d:Int):d∈q3x A x.dim.toNat x.id↔d=x.id\/Relation.TransGen (q87 A) x.id d :=
 ⟨qb7,fun h=>h.elim (fun h=>h ▸ qct _ _ _) fun h=>qjd G D hx rfl (by have:=D x hx;omega) h⟩
def agree (A B:List Cl)(c:Int):Bool:=match A.find? (fun x=>x.id == c),B.find? (fun x=>x.id == c)with
 |some a,Y b=>clB a b
 |_,_=>false
def qky (A B:List Cl):List Cl:=A.filter fun x=>(q3x A x.dim.toNat x.id).all (agree A B)
def q5i (A:List Cl):Int:=(A.map Cl.dim).foldl max (-1)
theorem q58:∀(l:List Int) (o:Int),l.foldl max o=o\/l.foldl max o∈l
 |[],o=>.inl rfl
 |a :: l,o=>by
  show (l.foldl max (max o a))=o\/_;rcases q58 l (max o a)with h|h
  ·rcases Int.le_total o a with h1|h1
   ·right;rw[List.foldl_cons,h,Int.max_eq_right h1];simp
   ·left;rw[h,Int.max_eq_left h1]
  ·right;exact bm _ h
theorem q6g:∀(l:List Int) (o:Int),o<=l.foldl max o/\∀a∈l,a<=l.foldl max o
 |[],o=>⟨Int.le_refl _,fun _ h=>by cases h⟩
 |b :: l,o=>by
  obtain⟨h1,h2⟩:=q6g l (max o b);refine⟨Int.le_trans (Int.le_max_left _ _) h1,fun a ha=>?_⟩;rcases gH.1 ha with rfl|ha
  ·exact Int.le_trans (Int.le_max_right _ _) h1
  ·exact h2 a ha
theorem qrc {A:List Cl}{n:Int}(h1 : -1<=n)(h2:∀x∈A,x.dim<=n)(h3:n=-1\/∃x∈A,x.dim=n):q5i A=n:=by
 unfold q5i;obtain⟨k1,k2⟩:=q6g (A.map Cl.dim) (-1);rcases q58 (A.map Cl.dim) (-1)with h|h
 ·rcases h3 with rfl|⟨x,hx,rfl⟩
  ·exact h
  ·have:=k2 _ (gj.2 ⟨x,hx,rfl⟩);omega
 ·obtain⟨y,hy,he⟩:=gj.1 h;have a1:=h2 y hy;rcases h3 with rfl|⟨x,hx,rfl⟩
  ·omega
  ·have:=k2 _ (gj.2 ⟨x,hx,rfl⟩);omega
end Go.Cx
namespace Go.Cx
def pS (F:List Int)(n:Nat)(D:Nat->Bool):List Int:=(List.range n).map fun t=>if D t then j6 F t else 0
theorem q38 (F:List Int)(n:Nat)(D:Nat->Bool):(pS F n D).length=n:=by simp[pS]
theorem q4u {F:List Int}{n:Nat}{D:Nat->Bool}{t:Nat}(h:t<n):(pS F n D)[t]? =Y (if D t then j6 F t else 0):=by unfold pS;rw[List.getElem?_map,List.getElem?_range h];rfl
theorem qkz (F:List Int)(n:Nat):pS F n (fun _=>false)=List.replicate n 0:=by
 refine List.ext_getElem? fun t=>?_
 by_cases h:t<n
 ·rw[q4u h,List.getElem?_replicate,if_pos h];rfl
 ·rw[List.getElem?_eq_none (by rw[q38];omega),List.getElem?_eq_none (by rw[List.length_replicate];omega)]
theorem qoc {F:List Int}{n:Nat}{D:Nat->Bool}{s:Nat}(hs:s<n):(pS F n D).set s (j6 F s)=pS F n (fun t=>D t || decide (t=s)):=by
 refine List.ext_getElem? fun t=>?_
 rw[List.getElem?_set,q38];by_cases ag:s=t
 ·subst ag;rw[if_pos rfl,if_pos hs,q4u hs];simp
 ·rw[if_neg ag];by_cases h:t<n
  ·rw[q4u h,q4u h];have:decide (t=s)=false:=decide_eq_false (Ne.symm ag);rw[this,Bool.or_false]
  ·rw[List.getElem?_eq_none (by rw[q38];omega),List.getElem?_eq_none (by rw[q38];omega)]
theorem qcv {F:List Int}{n:Nat}{D D':Nat->Bool}(h:∀t,t<n->D t=D' t\/j6 F t=0):pS F n D=pS F n D':=by
 refine List.ext_getElem? fun t=>?_
 by_cases ht:t<n
 ·rw[q4u ht,q4u ht];rcases h t ht with h|h
  ·rw[h]
  ·rw[h];simp
 ·rw[List.getElem?_eq_none (by rw[q38];omega),List.getElem?_eq_none (by rw[q38];omega)]
theorem ql1 {F:List Int}{n:Nat}{D:Nat->Bool}(hF:F.length=n)(h:∀t,t<n->D t=true\/j6 F t=0):pS F n D=F:=by
 refine List.ext_getElem? fun t=>?_
 by_cases ht:t<n
 ·rw[q4u ht,q09 (by omega)];rcases h t ht with h|h
  ·rw[if_pos h]
  ·rw[h];simp
 ·rw[List.getElem?_eq_none (by rw[q38];omega),List.getElem?_eq_none (by omega)]
theorem qm8 {F:List Int}{n:Nat}{D:Nat->Bool}{off:Nat}{cs:List Int}(ib:off+cs.length<=n)(iq:∀j,j<cs.length->j6 cs j=j6 F (off+j)) :
  splice (pS F n D) off cs=pS F n (fun t=>D t || (decide (off<=t) && decide (t<off+cs.length))):=by
 have hl:((pS F n D).take off).length=off:=by rw[gD,q38];omega
 refine List.ext_getElem? fun t=>?_
 unfold splice;by_cases h1:t<off
 ·rw[gU (by omega),List.getElem?_take,if_pos h1,q4u (by omega),q4u (by omega)];rw[decide_eq_false (show ¬off<=t by omega),Bool.false_and,Bool.or_false]
 ·rw[gQ (by omega),hl];by_cases h2:t<off+cs.length
  ·rw[gU (by omega),q09 (by omega),q4u (by omega),iq _ (by omega),decide_eq_true (show off<=t by omega),decide_eq_true h2,Bool.and_true,Bool.or_true,if_pos rfl];rw[show off+(t-off)=t by omega]
  ·rw[gQ (by omega),List.getElem?_drop,show off+cs.length+(t-off-cs.length)=t by omega];by_cases h3:t<n
   ·rw[q4u h3,q4u h3,decide_eq_false h2,Bool.and_false,Bool.or_false]
   ·rw[List.getElem?_eq_none (by rw[q38];omega),List.getElem?_eq_none (by rw[q38];omega)]
theorem qi9 {l:List Nat}(hl:l.Nodup){k x:Nat}(h:l[k]? =Y x):l.idxOf? x=Y k:=by
 cases hi:l.idxOf? x with
 |none =>rw[List.idxOf?_eq_none_iff]at hi;exact absurd (gi h) hi
 |some k' =>have h2:=idxOf?_some hi;rw[qo7 hl h h2]
theorem qcw {l:List Nat}{x:Nat}(h:x ∉ l):l.idxOf? x=none:=List.idxOf?_eq_none_iff.2 h
theorem qfg {l:List Nat}(h:l.Pairwise (· < ·)):l.Nodup:=h.imp fun h=>by omega
theorem ql3 {p:Int}{n m:Nat}{a b S:List (List Int)}(h:qca p n m a b=Y S):(∀j∈(jk p (n+m) (jl a b)).2,j<n)/\∀i,i<n->zm S i=match (jk p (n+m) (jl a b)).2.idxOf? i with
  |some k=>(zm (jk p (n+m) (jl a b)).1 k).drop n
  |none=>List.replicate m 0:=by
 unfold qca at h
 dsimp only at h
 split at h
 ·cases h
 ·rename_i hn;injection h with h
  subst h;refine⟨fun j hj=>?_,fun i hi=>?_⟩
  ·apply gN;intro h2;exact hn (List.any_eq_true.2 ⟨j,hj,decide_eq_true (by omega)⟩)
  ·unfold zm;rw[gb,List.getElem?_map,List.getElem?_range hi];rfl
theorem qt8 {i m t:Nat}(h1:i*m<=t)(h2:t<i*m+m):t / m=i:=by
 have hm:0<m:=by omega
 refine Nat.div_eq_of_lt_le h1 ?_;rw[Nat.add_mul,Nat.one_mul];exact h2
def q8w (piv:List Nat)(m k:Nat):Nat->Bool:=fun t=>(piv.take k).contains (t / m)
theorem qm9 (piv:List Nat)(m:Nat):q8w piv m 0=fun _=>false:=by funext t;simp[q8w]
theorem qma {piv:List Nat}{m k q:Nat}(h:piv[k]? =Y q)(hm:0<m)(t:Nat):q8w piv m (k+1) t=(q8w piv m k t || (decide (q*m<=t) && decide (t<q*m+m))):=by
 unfold q8w;rw[gC,h];have e:(decide (q*m<=t) && decide (t<q*m+m))=decide (t / m=q):=by rw[<-Bool.decide_and];refine decide_eq_decide.2 ⟨fun ⟨h1,h2⟩=>qt8 h1 h2,fun e=>?_⟩;subst e;have:=Nat.div_add_mod t m;have h2:=Nat.mod_lt t hm;rw[Nat.mul_comm]at this;omega
 rw[e,Bool.eq_iff_iff];simp
theorem qod {p:Int}{n m r:Nat}{a b S:List (List Int)}(hp:0<p)(ha:FM p r n a)(hb:FM p r m b)(h:qca p n m a b=Y S){k q:Nat}(hk:(jk p (n+m) (jl a b)).2[k]? =Y q) :
  splice (pS S.flatten (n*m) (q8w (jk p (n+m) (jl a b)).2 m k)) (q*m) ((zm (jk p (n+m) (jl a b)).1 k).drop n)=pS S.flatten (n*m) (q8w (jk p (n+m) (jl a b)).2 m (k+1))/\q<n/\((zm (jk p (n+m) (jl a b)).1 k).drop n).length=m:=by
 obtain⟨h1,h2⟩:=ql3 h;have hS:=qg3 hp ha hb h;obtain⟨hR,Su,jP,jY⟩:=q0s hp (q0u ha hb);have hq:q<n:=h1 q (gi hk);have cO:k<r:=gz (gk.1 hk).1 Su;have hlen:((zm (jk p (n+m) (jl a b)).1 k).drop n).length=m:=by rw[bF,(hR.row cO).1];omega
 have al:zm S q=(zm (jk p (n+m) (jl a b)).1 k).drop n:=by rw[h2 q hq,qi9 (qfg jY) hk]
 refine⟨?_,hq,hlen⟩;have ib:q*m+m<=n*m:=by rw[<-Nat.succ_mul];exact gI _ hq
 rw[qm8 (by rw[hlen];exact ib) fun j hj=>?_]
 ·refine qcv fun t ht=>.inl ?_
  rw[hlen];rcases Nat.eq_zero_or_pos m with h0|h0
  ·subst h0;simp at ht
  ·exact(qma hk h0 t).symm
 ·rw[hlen]at hj;rw[<-al];have:=flat_get hS.wid (by rw[hS.len];exact hq) hj;unfold j6 at this ⊢;rw[gb (l:=S.flatten),this];rfl
theorem qrd {p:Int}{n m r:Nat}{a b S:List (List Int)}(hp:0<p)(ha:FM p r n a)(hb:FM p r m b)(h:qca p n m a b=Y S) :
  pS S.flatten (n*m) (q8w (jk p (n+m) (jl a b)).2 m (jk p (n+m) (jl a b)).2.length)=S.flatten:=by
 obtain⟨h1,h2⟩:=ql3 h;have hS:=qg3 hp ha hb h;refine ql1 hS.q1d fun t ht=>?_
 unfold q8w;rw[List.take_length];by_cases hc:t / m∈(jk p (n+m) (jl a b)).2
 ·exact .inl (by simpa using hc)
 ·refine .inr ?_;have hm:0<m:=by
   rcases Nat.eq_zero_or_pos m with h0|h0
   ·subst h0;simp at ht
   ·exact h0
  have ak:t / m<n:=Nat.div_lt_of_lt_mul (by rw[Nat.mul_comm];exact ht);have e:t=t / m*m+t%m:=by rw[Nat.mul_comm];exact(Nat.div_add_mod t m).symm
  have hg:=flat_get hS.wid (by rw[hS.len];exact ak) (Nat.mod_lt t hm);rw[<-e,h2 _ ak,qcw hc]at hg;unfold j6 at hg ⊢;rw[gb,hg];show List.getD _ _ _=0;rw[gb,List.getElem?_replicate];split <;> rfl
theorem qoe {f c t i:Nat}(hc:c<f):t=i*f+c↔t%f=c/\t / f=i:=by
 constructor
 ·rintro rfl;rw[Nat.mul_comm,Nat.mul_add_mod,Nat.mod_eq_of_lt hc,Nat.mul_add_div (by omega),Nat.div_eq_of_lt hc];exact⟨rfl,rfl⟩
 ·rintro ⟨h1,h2⟩;have:=Nat.div_add_mod t f;rw[h1,h2,Nat.mul_comm]at this;exact this.symm
def q9h (piv:List Nat)(f c j k:Nat):Nat->Bool:=fun t=>decide (t%f<c) || (decide (t%f=c) && (decide (t / f=j) || (piv.take k).contains (t / f)))
theorem qje {F:List Int}{K:Nat}(piv:List Nat){f c j:Nat}(hc:c<f)(h:j*f+c<K):(pS F K fun t=>decide (t%f<c)).set (j*f+c) (j6 F (j*f+c))=pS F K (q9h piv f c j 0):=by
 rw[qoc h]
 congr 1
 funext t
 unfold q9h;rw[decide_eq_decide.2 (qoe (t:=t) (i:=j) hc),Bool.decide_and];simp
theorem qmb {F:List Int}{K:Nat}{piv:List Nat}{f c j k q:Nat}(hc:c<f)(h:q*f+c<K)(hq:piv[k]? =Y q):(pS F K (q9h piv f c j k)).set (q*f+c) (j6 F (q*f+c))=pS F K (q9h piv f c j (k+1)):=by
 rw[qoc h]
 congr 1
 funext t
 unfold q9h;rw[decide_eq_decide.2 (qoe (t:=t) (i:=q) hc),Bool.decide_and,gC,hq,Bool.eq_iff_iff];simp;constructor
 ·rintro ((h|⟨h,h2|h2⟩)|⟨h,h2⟩)
  ·exact .inl h
  ·exact .inr ⟨h,.inl h2⟩
  ·exact .inr ⟨h,.inr (.inl h2)⟩
  ·exact .inr ⟨h,.inr (.inr h2)⟩
 ·rintro (h|⟨h,h2|h2|h2⟩)
  ·exact .inl (.inl h)
  ·exact .inl (.inr ⟨h,.inl h2⟩)
  ·exact .inl (.inr ⟨h,.inr h2⟩)
  ·exact .inr ⟨h,h2⟩
theorem qof {p:Int}{m:Nat}{M:List (List Int)}{f c j:Nat}(hp:1<p)(hf:f=(q2n m (jk p m M).2).length)(hc:(q2n m (jk p m M).2)[c]? =Y j) :
  pS (q37 p m M).flatten (m*f) (q9h (jk p m M).2 f c j (jk p m M).2.length)=pS (q37 p m M).flatten (m*f) (fun t=>decide (t%f<c+1)):=by
 have pf:c<f:=by rw[hf];exact(gk.1 hc).1
 have hK:=qcj (m:=m) (M:=M) hp;refine qcv fun t ht=>?_
 by_cases h1:t%f=c
 ·by_cases h2:t / f=j\/t / f∈(jk p m M).2
  ·refine .inl ?_;unfold q9h;rw[List.take_length,Bool.eq_iff_iff];simp;constructor
   ·intro;omega
   ·intro;right;refine⟨h1,?_⟩;rcases h2 with h2|h2
    ·exact .inl h2
    ·exact .inr h2
  ·refine .inr ?_;have ak:t / f<m:=Nat.div_lt_of_lt_mul (by rw[Nat.mul_comm];exact ht);have e:=(qoe (t:=t) (i:=t / f) pf).2 ⟨h1,rfl⟩;have hg:=flat_get hK.wid (i:=t / f) (c:=c) (by rw[hK.len];exact ak) (by rw[<-hf];exact pf);rw[<-hf,<-e,qjc ak hc,qcw fun h=>h2 (.inr h)]at hg
   dsimp only at hg
   rw[if_neg fun h=>h2 (.inl h)]at hg;unfold j6;rw[gb,hg];rfl
 ·refine .inl ?_;unfold q9h;rw[decide_eq_false h1,Bool.false_and,Bool.or_false];exact decide_eq_decide.2 (by omega)
theorem qre {p:Int}{m:Nat}{M:List (List Int)}{f c j k q:Nat}(hp:1<p)(hf:f=(q2n m (jk p m M).2).length)(hc:(q2n m (jk p m M).2)[c]? =Y j)(hs:(jk p m M).2.Pairwise (· < ·))(hq:(jk p m M).2[k]? =Y q)(oC:q<m) :
  j6 (q37 p m M).flatten (q*f+c)=(p-j6 (zm (jk p m M).1 k) j)%p:=by
 have pf:c<f:=by rw[hf];exact(gk.1 hc).1
 have hK:=qcj (m:=m) (M:=M) hp;have hg:=flat_get hK.wid (i:=q) (c:=c) (by rw[hK.len];exact oC) (by rw[<-hf];exact pf);rw[<-hf,qjc oC hc,qi9 (qfg hs) hq]at hg;unfold j6;rw[gb,hg];rfl
theorem qog {p:Int}{m:Nat}{M:List (List Int)}{f c j:Nat}(hp:1<p)(hf:f=(q2n m (jk p m M).2).length)(hc:(q2n m (jk p m M).2)[c]? =Y j)(hj:j<m)(hn:j ∉ (jk p m M).2) :
  j6 (q37 p m M).flatten (j*f+c)=1:=by
 have pf:c<f:=by rw[hf];exact(gk.1 hc).1
 have hK:=qcj (m:=m) (M:=M) hp;have hg:=flat_get hK.wid (i:=j) (c:=c) (by rw[hK.len];exact hj) (by rw[<-hf];exact pf);rw[<-hf,qjc hj hc,qcw hn]at hg
 dsimp only at hg
 rw[if_pos rfl]at hg;unfold j6;rw[gb,hg];rfl
end Go.Cx
namespace Go.Cx
open Go.Proofs.YtmkpbhaoalbhjaaGreatDoor
def qia (p:Int)(K:List Cl)(d:Int)(m:Nat)(Bd:List (List Int)):Option (List (List Int)) :=
 if (mulM p m (bdP p K d) Bd).flatten.all (fun n=>n == 0)then (qca p (hK p K d+bK p K d) m (jl (q24 p K d) (q9e p K d)) Bd).map fun X=>X.take (hK p K d)else Z
theorem qoh {p:Int}(hp:prN p.toNat=true){K:List Cl}{d:Int}{m:Nat}{Bd:List (List Int)}(hZ:FM p (nId K d) m Bd)(hs:(qia p K d m Bd).isSome=true) :
  (mulM p m (bdP p K d) Bd).flatten.all (fun n=>n == 0)=true/\∃X,qca p (hK p K d+bK p K d) m (jl (q24 p K d) (q9e p K d)) Bd=Y X/\FM p (hK p K d+bK p K d) m X/\qia p K d m Bd=Y (X.take (hK p K d)):=by
 have cp:0<p:=by have:=(yi.1 hp).1;omega
 unfold qia at hs ⊢;split at hs
 ·rename_i h;cases hX:qca p (hK p K d+bK p K d) m (jl (q24 p K d) (q9e p K d)) Bd with
  |none=>rw[hX]at hs;cases hs
  |some X=>exact⟨h,X,rfl,qg3 cp (q0u (qkx K d hp) (q9f K d hp).1) hZ hX,by rw[if_pos h];rfl⟩
 ·cases hs
theorem FM.take {p:Int}{r m k:Nat}{M:List (List Int)}(h:FM p r m M)(hk:k<=r):FM p k m (M.take k) :=
 ⟨by rw[gD,h.len];omega,fun x hx=>h.wid x (gX hx),fun x hx=>h.res x (gX hx)⟩
theorem qfj {m:Nat} : ∀ {M:List (List Int)} (k:Nat),(∀x∈M,x.length=m)->M.flatten.take (k*m)=(M.take k).flatten
 |[],k,_=>by simp
 |x :: M,0,_=>by simp
 |x :: M,k+1,h=>by have hx:=h x (by simp);rw[List.flatten_cons,List.take_succ_cons,List.flatten_cons,List.take_append,hx,Nat.add_mul,Nat.one_mul,Nat.add_sub_cancel,qfj k fun y hy=>h y (by simp[hy]),gr (by omega)]
def q5q (p:Int)(K L:List Cl)(d:Int):List (List Int):=(q04 L d).map fun r=>(q04 K d).map fun c=>qw c 1 r%p
theorem qrf {p:Int}(hp:0<p)(K L:List Cl)(d:Int):FM p (nId L d) (nId K d) (q5q p K L d):=qob hp _ _ fun c r=>qw c 1 r
def qef (p:Int)(K L:List Cl)(d:Int):Option (List (List Int)):=qia p L d (hK p K d) (mulM p (hK p K d) (q5q p K L d) (q24 p K d))
def yu (p:Int)(K L:List Cl)(d:Int):List (List Int):=(qef p K L d).getD []
def q0v (all some:List Int)(X:List (List Int)):List (List Int):=some.map fun id=>zm X (all.idxOf id)
theorem qoi {p:Int}{r m:Nat}{all some:List Int}{X:List (List Int)}(h:FM p r m X)(ha:all.length=r)(hs:∀id∈some,id∈all):FM p some.length m (q0v all some X):=by
 refine⟨by simp[q0v],fun x hx=>?_,fun x hx=>?_⟩ <;>
  obtain⟨id,hid,rfl⟩:=gj.1 hx
 ·exact(h.row (by rw[<-ha];exact List.idxOf_lt_length_iff.2 (hs id hid))).1
 ·exact(h.row (by rw[<-ha];exact List.idxOf_lt_length_iff.2 (hs id hid))).2.1
def q4d (p:Int)(X:List (List Int)):List (List Int):=X.map fun x=>x.map fun n=>(p-n)%p
theorem qrg {p:Int}(hp:0<p){r m:Nat}{X:List (List Int)}(h:FM p r m X):FM p r m (q4d p X):=by
 refine⟨by simp[q4d,h.len],fun x hx=>?_,fun x hx n hn=>?_⟩ <;> obtain⟨y,hy,rfl⟩:=gj.1 hx
 ·rw[gp];exact h.wid y hy
 ·obtain⟨k,_,rfl⟩:=gj.1 hn;exact q7b _ hp
theorem qmj (p:Int)(X:List (List Int)):(q4d p X).flatten=X.flatten.map fun n=>(p-n)%p:=by unfold q4d;rw[List.map_flatten]
def q9i (p:Int)(A M U:List Cl)(d:Int)(m:Nat)(Bd:List (List Int)):List (List Int):=q0v (q04 A (d-1)) (q04 M (d-1)) (mulM p m (bdP p A d) (q0v (q04 U d) (q04 A d) Bd))
structure Mx where
 r:Nat
 c:Nat
 M:List (List Int)
def qml (p:Int)(A B M U:List Cl)(d:Int):List Nat:=[hK p M d,hK p A d+hK p B d,hK p U d]
def qt9 (p:Int)(A M U:List Cl)(d:Int):Option (List (List Int)):=qia p M (d-1) (hK p U d) (q9i p A M U d (hK p U d) (q24 p U d))
def qib (p:Int)(A B M U:List Cl)(d:Int):List Mx:=[⟨hK p A d+hK p B d,hK p M d,yu p M A d++yu p M B d⟩,⟨hK p U d,hK p A d+hK p B d,jl (yu p A U d) (q4d p (yu p B U d))⟩] ++
 if 0<d then [⟨hK p M (d-1),hK p U d,(qt9 p A M U d).getD []⟩]else []
theorem q4v {K:List Cl} : chk K=(0,0)↔K.length<=8/\Asc (canon K)/\∀x∈canon K,0<x.id/\xx (cAt K) x=0/\x.dim<=1:=by
 refine⟨qhu,fun ⟨h1,h2,h3⟩=>?_⟩;unfold chk;rw[if_neg,ql2 (fun x hx=>⟨(h3 x hx).1,(h3 x hx).2.1⟩) h2]
 ·rfl
 ·rintro (h|h)
  ·omega
  ·obtain⟨x,hx,hd⟩:=List.any_eq_true.1 h;have h4:=(h3 (Cl.canon x) (gj.2 ⟨x,(q2m _ _).2 hx,rfl⟩)).2.2;have h5:x.dim<=1:=h4;have hd:=of_decide_eq_true hd;omega
theorem qrh {K:List Cl}(h:chk K=(0,0)):Dm (canon K):=fun x hx=>by
 obtain⟨_,_,h3⟩:=q4v.1 h;have:=(h3 x hx).2.1;unfold xx at this;split at this
 ·cases this
 ·omega
section
variable {K:List Cl}{P Q:Cl->Bool}
end
theorem qmm {K:List Cl}(G:Good K)(d:Int):(q04 K d).Nodup:=by rw[G.ids];exact(G.nodup.sublist (List.filter_sublist.map _))
def q6v (A L:List Cl):Prop:=∀x∈A,x∈L
theorem q6v.ids {A L:List Cl}(GA:Good A)(GL:Good L)(h:q6v A L)(d:Int):∀c∈q04 A d,c∈q04 L d:=fun c hc=>by rw[GA.ids]at hc;rw[GL.ids];obtain⟨x,hx,rfl⟩:=gj.1 hc;obtain⟨h1,h2⟩:=gS.1 hx;exact gj.2 ⟨x,gS.2 ⟨h x h1,h2⟩,rfl⟩
structure Cov (A B M U:List Cl):Prop where
 a:Good A
 b:Good B
 m:Good M
 u:Good U
 ca:chk A=(0,0)
 cb:chk B=(0,0)
 cm:chk M=(0,0)
 cu:chk U=(0,0)
 au:q6v A U
 bu:q6v B U
 ma:q6v M A
 mb:q6v M B
 all:∀x∈U,x∈A\/x∈B
 both:∀x∈A,x∈B->x∈M
