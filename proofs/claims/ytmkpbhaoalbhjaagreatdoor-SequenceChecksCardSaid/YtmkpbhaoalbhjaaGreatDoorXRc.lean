/- Steps towards SequenceChecks. Conditions: none. -/
import Derived.Test.YtmkpbhaoalbhjaaGreatDoorXMa
set_option maxRecDepth 1000000
set_option maxHeartbeats 0
open Option renaming none→Z,some→Y
namespace Go.Cx
def prN (n:Nat):Bool:=Nat.ble 2 n && (Nat.ble n 997 && (List.range n).all fun k=>Nat.ble k 1 || !Nat.beq (n%k) 0)
def q8v (p:Nat):Nat->Nat->Nat->Nat->Nat
 |0,_,out,_=>out
 |f+1,e,out,power=>cond (Nat.beq e 0) out (q8v p f (e / 2) (cond (Nat.beq (e%2) 1) (out*power%p) out) (power*power%p))
def qj9 (p:Nat):Bool:=!prN p || (List.range p).all fun n=>Nat.beq n 0 || Nat.beq (n*q8v p 10 (p-2) 1 n%p) 1
theorem qud:(List.range' 0 400).all qj9=true:=by kernel_rfl
theorem que:(List.range' 400 200).all qj9=true:=by kernel_rfl
theorem quf:(List.range' 600 150).all qj9=true:=by kernel_rfl
theorem qug:(List.range' 750 130).all qj9=true:=by kernel_rfl
theorem quh:(List.range' 880 118).all qj9=true:=by kernel_rfl
theorem yi {n:Nat} : prN n=true↔2<=n/\n<=997/\∀k,2<=k->k<n->n%k≠0:=by
 unfold prN;simp only [Bool.and_eq_true,Nat.ble_eq,List.all_eq_true,List.mem_range,Bool.or_eq_true,Bool.not_eq_true',<-Bool.not_eq_true,Nat.beq_eq];constructor
 ·rintro ⟨h1,h2,h3⟩;exact⟨h1,h2,fun k hk hn=>(h3 k hn).resolve_left (by omega)⟩
 ·rintro ⟨h1,h2,h3⟩;refine⟨h1,h2,fun k hk=>?_⟩;by_cases h:k<=1
  ·exact .inl h
  ·exact .inr (h3 k (by omega) hk)
theorem qnx {n k:Nat}(h2:2<=n)(hn:n<=997)(hk:n<k*k)(h:∀j,2<=j->j<k->n%j≠0):prN n=true:=by
 refine yi.2 ⟨h2,hn,fun j hj ly h0=>?_⟩;obtain⟨e,he⟩:=Nat.dvd_of_mod_eq_zero h0;rcases gG j k with mH|mH
 ·exact h j hj mH h0
 ·have uB:2<=e:=by
   rcases gG e 2 with h|h
   ·have:e=0\/e=1:=by omega
    rcases this with rfl|rfl <;> omega
   ·exact h
  rcases gG e k with GY|GY
  ·exact h e uB GY (by rw[he];exact Nat.mul_mod_left _ _)
  ·have:=Nat.mul_le_mul mH GY;omega
theorem qr4 {p n:Nat}(hp:prN p=true)(h0:n≠0)(hn:n<p):n*q8v p 10 (p-2) 1 n%p=1:=by
 have Sp:=(yi.1 hp).2.1;have key:qj9 p=true:=by
  have h1:=gE.1 qud p;have h2:=gE.1 que p;have h3:=gE.1 quf p;have h4:=gE.1 qug p;have h5:=gE.1 quh p;simp only [List.mem_range'_1]at h1 h2 h3 h4 h5;rcases (by omega:p<400\/400<=p/\p<600\/600<=p/\p<750\/750<=p/\p<880\/880<=p)with h|h|h|h|h
  ·exact h1 (by omega)
  ·exact h2 (by omega)
  ·exact h3 (by omega)
  ·exact h4 (by omega)
  ·exact h5 (by omega)
 unfold qj9 at key;rw[hp]at key;simp only [Bool.not_true,Bool.false_or,List.all_eq_true,List.mem_range,Bool.or_eq_true,Nat.beq_eq]at key;exact(key n hn).resolve_left h0
theorem qkr {p:Nat}(hp:1<p):∀(f e out power:Nat),out<p->q8v p f e out power<p
 |0,_,_,_,h=>h
 |f+1,e,out,power,h=>by
  unfold q8v;cases Nat.beq e 0 with
  |true=>exact h
  |false =>
   refine qkr hp f _ _ _ ?_;cases Nat.beq (e%2) 1 with
   |true=>exact Nat.mod_lt _ (by omega)
   |false=>exact h
def ovN (p n:Nat):Nat:=((List.range p).find? fun k=>Nat.ble 1 k && Nat.beq (n*k%p) 1).getD 1
theorem qhz {p n x y:Nat}(hx:x<p)(hy:y<p)(h1:n*x%p=1)(h2:n*y%p=1):x=y:=by
 have e1:x*(n*y)%p=x:=by rw[Nat.mul_mod,h2,gK,Nat.mod_mod,Nat.mod_eq_of_lt hx]
 have e2:y*(n*x)%p=y:=by rw[Nat.mul_mod,h1,gK,Nat.mod_mod,Nat.mod_eq_of_lt hy]
 have e3:x*(n*y)=y*(n*x):=by rw[Nat.mul_left_comm,Nat.mul_left_comm y n x,Nat.mul_comm x y]
 rw[e3]at e1;exact e1.symm.trans e2
theorem q6t {p n:Nat}(hp:prN p=true)(h0:n≠0)(hn:n<p):1<=ovN p n/\ovN p n<p/\n*ovN p n%p=1/\ovN p n=q8v p 10 (p-2) 1 n:=by
 have h2:=(yi.1 hp).1;have jY:=qr4 hp h0 hn;have ak:=qkr (p:=p) (by omega) 10 (p-2) 1 n (by omega);have h1:1<=q8v p 10 (p-2) 1 n:=by
  rcases Nat.eq_zero_or_pos (q8v p 10 (p-2) 1 n)with h|h
  ·rw[h,Nat.mul_zero,Nat.zero_mod]at jY;cases jY
  ·exact h
 unfold ovN;cases hf:(List.range p).find? fun k=>Nat.ble 1 k && Nat.beq (n*k%p) 1 with
 |none =>have:=List.find?_eq_none.1 hf _ (gF.2 ak);simp[jY]at this;omega
 |some k =>have hk:=List.find?_some hf;have hm:=gF.1 (gR hf);simp only [Bool.and_eq_true,Nat.ble_eq,Nat.beq_eq]at hk;exact⟨hk.1,hm,hk.2,qhz hm ak hk.2 jY⟩
def zm (M:List (List Int))(i:Nat):List Int:=M.getD i []
def j6 (l:List Int)(j:Nat):Int:=l.getD j 0
theorem q1k {M:List (List Int)}{i:Nat}(h:i<M.length):M[i]? =Y (zm M i):=by unfold zm;rw[gb,gg h];rfl
theorem q09 {l:List Int}{j:Nat}(h:j<l.length):l[j]? =Y (j6 l j):=by unfold j6;rw[gb,gg h];rfl
structure FM (p:Int)(r m:Nat)(M:List (List Int)):Prop where
 len:M.length=r
 wid:∀x∈M,x.length=m
 res:∀x∈M,∀n∈x,0<=n/\n<p
theorem FM.row {p:Int}{r m:Nat}{M:List (List Int)}(h:FM p r m M){i:Nat}(hi:i<r):(zm M i).length=m/\(∀n∈zm M i,0<=n/\n<p)/\zm M i∈M:=by have:=gi (q1k (by rw[h.len];exact hi));exact⟨h.wid _ this,h.res _ this,this⟩
theorem FM.at {p:Int}{r m:Nat}{M:List (List Int)}(h:FM p r m M){i j:Nat}(hi:i<r)(hj:j<m):0<=j6 (zm M i) j/\j6 (zm M i) j<p:=by obtain⟨h1,h2,_⟩:=h.row hi;exact h2 _ (gi (q09 (by omega)))
theorem FM.set {p:Int}{r m:Nat}{M:List (List Int)}(h:FM p r m M)(i:Nat){x:List Int}(hl:x.length=m)(hr:∀n∈x,0<=n/\n<p):FM p r m (M.set i x) :=
 ⟨by rw[List.length_set];exact h.len,fun y hy=>(List.mem_or_eq_of_mem_set hy).elim (h.wid y) fun e=>e ▸ hl,fun y hy=>(List.mem_or_eq_of_mem_set hy).elim (h.res y) fun e=>e ▸ hr⟩
theorem q6u {m:Nat} : ∀ {M:List (List Int)},(∀x∈M,x.length=m)->M.flatten.length=M.length*m
 |[],_=>by simp
 |x :: M,h=>by rw[List.flatten_cons,gw,q6u fun y hy=>h y (by simp[hy]),h x (by simp),gV,Nat.add_mul,Nat.one_mul,Nat.add_comm]
theorem flat_get {m:Nat} : ∀ {M:List (List Int)},(∀x∈M,x.length=m)->∀ {i c:Nat},i<M.length->c<m->M.flatten[i*m+c]? =Y (j6 (zm M i) c)
 |[],_,_,_,h,_=>absurd h (by simp)
 |x :: M,hw,0,c,_,hc=>by have hx:=hw x (by simp);rw[List.flatten_cons,Nat.zero_mul,Nat.zero_add,gU (by omega)];exact q09 (by omega)
 |x :: M,hw,i+1,c,hi,hc=>by have hx:=hw x (by simp);rw[List.flatten_cons,gQ (by rw[hx,Nat.add_mul];omega),hx,show (i+1)*m+c-m=i*m+c by rw[Nat.add_mul];omega];exact flat_get (fun y hy=>hw y (by simp[hy])) (by simpa using hi) hc
theorem q1r {m:Nat}(v:Int):∀ {M:List (List Int)},(∀x∈M,x.length=m)->∀ {i c:Nat},i<M.length->c<m->M.flatten.set (i*m+c) v=(M.set i ((zm M i).set c v)).flatten
 |[],_,_,_,h,_=>absurd h (by simp)
 |x :: M,hw,0,c,_,hc=>by have hx:=hw x (by simp);rw[List.flatten_cons,Nat.zero_mul,Nat.zero_add,List.set_append_left _ _ (by omega)];rfl
 |x :: M,hw,i+1,c,hi,hc=>by have hx:=hw x (by simp);rw[List.flatten_cons,List.set_append_right _ _ (by rw[hx,Nat.add_mul];omega),hx,show (i+1)*m+c-m=i*m+c by rw[Nat.add_mul];omega,q1r v (fun y hy=>hw y (by simp[hy])) (by simpa using hi) hc];rfl
def rowsOf (m:Nat):Nat->List Int->List (List Int)
 |0,_=>[]
 |r+1,E=>E.take m :: rowsOf m r (E.drop m)
theorem qb5 {m:Nat} : ∀ {r:Nat} {E:List Int},E.length=r*m->(rowsOf m r E).flatten=E
 |0,E,h=>by
  have:E.length=0:=by simpa using h
  rw[gl this];rfl
 |r+1,E,h=>by unfold rowsOf;rw[List.flatten_cons,qb5 (by rw[bF,h,Nat.add_mul];omega),bC]
theorem qel {p:Int}{m:Nat} : ∀ {r:Nat} {E:List Int},E.length=r*m->(∀n∈E,0<=n/\n<p)->FM p r m (rowsOf m r E)
 |0,_,_,_=>⟨rfl,(fun _ h=>by cases h),(fun _ h=>by cases h)⟩
 |r+1,E,h,hr=>by
  have ih:=qel (p:=p) (m:=m) (r:=r) (E:=E.drop m) (by rw[bF,h,Nat.add_mul];omega) fun n hn=>hr n (bM hn)
  refine⟨by show (rowsOf m r _).length+1=r+1;rw[ih.len],fun x hx=>?_,fun x hx=>?_⟩
  ·rcases gH.1 hx with rfl|hx
   ·rw[gD,h,Nat.add_mul];omega
   ·exact ih.wid x hx
  ·rcases gH.1 hx with rfl|hx
   ·exact fun n hn=>hr n (gX hn)
   ·exact ih.res x hx
def q25 (M:List (List Int))(j:Nat):Nat->Nat->Option Nat
 |0,_=>Z
 |f+1,i=>if j6 (zm M i) j=0 then q25 M j f (i+1)else Y i
def vg (p:Int)(j:Nat)(piv r:List Int):List Int:=if j6 r j=0 then r else List.zipWith (fun n x=>(n+x*(p-j6 r j))%p) r piv
def q0f (M:List (List Int))(a i:Nat):List (List Int):=(M.set a (zm M i)).set i (zm M a)
def ye (p:Int)(j:Nat)(r:List Int):List Int:=r.map fun x=>x*(ovN p.toNat (j6 r j).toNat:Int)%p
def kr (p:Int)(s:List (List Int)×List Nat)(j:Nat):List (List Int)×List Nat :=
 match q25 s.1 j (s.1.length-s.2.length) s.2.length with
 |none=>s
 |some i =>
  let M:=q0f s.1 s.2.length i
  let piv:=ye p j (zm M s.2.length)
  let M:=M.set s.2.length piv
  (M.mapIdx fun k r=>if k=s.2.length then r else vg p j piv r,s.2++[j])
def jk (p:Int)(m:Nat)(M:List (List Int)):List (List Int)×List Nat:=(List.range m).foldl (kr p) (M,[])
theorem q1g {M:List (List Int)}{j:Nat} : ∀ {f i k:Nat},q25 M j f i=Y k->i<=k/\k<i+f/\j6 (zm M k) j≠0/\∀i',i<=i'->i'<k->j6 (zm M i') j=0
 |0,i,k,h=>by cases h
 |f+1,i,k,h=>by
  unfold q25 at h;split at h
  ·rename_i h0;obtain⟨h1,h2,h3,h4⟩:=q1g h;refine⟨by omega,by omega,h3,fun i' h5 h6=>?_⟩;rcases gG i i' with h7|h7
   ·exact h4 i' (by omega) h6
   ·rw[show i'=i by omega];exact h0
  ·rename_i h0;injection h with h
   subst h;exact⟨by omega,by omega,h0,fun i' h5 h6=>by omega⟩
theorem q3i {M:List (List Int)}{j:Nat} : ∀ {f i:Nat},q25 M j f i=Z->∀i',i<=i'->i'<i+f->j6 (zm M i') j=0
 |0,i,_,i',h1,h2=>by omega
 |f+1,i,h,i',h1,h2=>by
  unfold q25 at h;split at h
  ·rename_i h0;rcases gG i i' with h7|h7
   ·exact q3i h i' (by omega) (by omega)
   ·rw[show i'=i by omega];exact h0
  ·cases h
theorem qen {M:List (List Int)}{j:Nat}{f i k:Nat}(h1:i<=k)(h2:k<i+f)(h3:j6 (zm M k) j≠0)(h4:∀i',i<=i'->i'<k->j6 (zm M i') j=0):q25 M j f i=Y k:=by
 cases h:q25 M j f i with
 |none=>exact absurd (q3i h k h1 h2) h3
 |some k' =>
  obtain⟨a,b,c,d⟩:=q1g h;rcases Nat.lt_trichotomy k k' with hl|hl|hl
  ·exact absurd (d k h1 hl) h3
  ·rw[hl]
  ·exact absurd (h4 k' a hl) c
theorem qeo {M:List (List Int)}{j:Nat}{f i:Nat}(h4:∀i',i<=i'->i'<i+f->j6 (zm M i') j=0):q25 M j f i=none:=by
 cases h:q25 M j f i with
 |none=>rfl
 |some k =>obtain⟨a,b,c,_⟩:=q1g h;exact absurd (h4 k a b) c
theorem q7b (x:Int){p:Int}(hp:0<p):0<=x%p/\x%p<p:=⟨Int.emod_nonneg x (by omega),Int.emod_lt_of_pos x hp⟩
theorem q2k {p:Int}(hp:0<p)(j:Nat)(r:List Int):(ye p j r).length=r.length/\∀n∈ye p j r,0<=n/\n<p:=by refine⟨gp _,fun n hn=>?_⟩;obtain⟨x,_,rfl⟩:=gj.1 hn;exact q7b _ hp
theorem q7m {p:Int}(hp:0<p)(j:Nat){m:Nat}{piv r:List Int}(h1:piv.length=m)(h2:r.length=m)(h3:∀n∈r,0<=n/\n<p):(vg p j piv r).length=m/\∀n∈vg p j piv r,0<=n/\n<p:=by
 unfold vg;split
 ·exact⟨h2,h3⟩
 ·refine⟨by rw[List.length_zipWith,h1,h2,Nat.min_self],fun n hn=>?_⟩;obtain⟨i,hi⟩:=bh hn;rw[List.getElem?_zipWith]at hi;split at hi
  ·injection hi with hi
   rw[<-hi];exact q7b _ hp
  ·cases hi
theorem FM.swap {p:Int}{r m:Nat}{M:List (List Int)}(h:FM p r m M){a i:Nat}(ha:a<r)(hi:i<r):FM p r m (q0f M a i):=by obtain⟨a1,a2,_⟩:=h.row ha;obtain⟨b1,b2,_⟩:=h.row hi;exact(h.set a b1 b2).set i a1 a2
theorem FM.qui {p:Int}{r m:Nat}{M:List (List Int)}(h:FM p r m M)(g:Nat->List Int->List Int)(hg:∀k x,x.length=m->(∀n∈x,0<=n/\n<p)->(g k x).length=m/\∀n∈g k x,0<=n/\n<p):FM p r m (M.mapIdx g):=by
 have key:∀x∈M.mapIdx g,x.length=m/\∀n∈x,0<=n/\n<p:=fun x hx=>by
  obtain⟨i,hi⟩:=bh hx;rw[List.getElem?_mapIdx]at hi;cases hy:M[i]? with
  |none=>rw[hy]at hi;cases hi
  |some y =>
   rw[hy]at hi;injection hi with hi
   rw[<-hi];have hm:=gi hy;exact hg i y (h.wid y hm) (h.res y hm)
 exact⟨by rw[List.length_mapIdx];exact h.len,fun x hx=>(key x hx).1,fun x hx=>(key x hx).2⟩
theorem qep {p:Int}(hp:0<p){r m:Nat}{s:List (List Int)×List Nat}(h:FM p r m s.1)(hs:s.2.length<=r)(j:Nat):FM p r m (kr p s j).1/\(kr p s j).2.length<=r:=by
 unfold kr;split
 ·exact⟨h,hs⟩
 ·rename_i i hf;obtain⟨h1,h2,_,_⟩:=q1g hf;rw[h.len]at h2;have hi:i<r:=by omega
  have ha:s.2.length<r:=by omega
  have hM:=h.swap ha hi;obtain⟨c1,c2,_⟩:=hM.row ha;obtain⟨n1,n2⟩:=q2k hp j (zm (q0f s.1 s.2.length i) s.2.length);rw[c1]at n1;refine⟨(hM.set s.2.length n1 n2).qui _ fun k x hx hr=>?_,by show (s.2++[j]).length<=r;rw[gw];exact ha⟩;split
  ·exact⟨hx,hr⟩
  ·exact q7m hp j n1 hx hr
def yf (p:Int)(M:List (List Int))(k:Nat):List (List Int)×List Nat:=(List.range k).foldl (kr p) (M,[])
theorem vh (p:Int)(M:List (List Int))(k:Nat):yf p M (k+1)=kr p (yf p M k) k:=by unfold yf;rw[bD,List.foldl_append];rfl
theorem q1m (p:Int)(s:List (List Int)×List Nat)(j:Nat):(kr p s j=s/\q25 s.1 j (s.1.length-s.2.length) s.2.length=Z)\/((kr p s j).2=s.2++[j]/\∃i,q25 s.1 j (s.1.length-s.2.length) s.2.length=Y i):=by
 unfold kr;split
 ·rename_i h;exact .inl ⟨rfl,h⟩
 ·rename_i i h;exact .inr ⟨rfl,i,h⟩
theorem q3n {p:Int}(hp:0<p){r m:Nat}{M:List (List Int)}(h:FM p r m M):∀k,FM p r m (yf p M k).1/\(yf p M k).2.length<=r/\(∀j∈(yf p M k).2,j<k)/\(yf p M k).2.Pairwise (· < ·)
 |0=>⟨h,gm _,fun _ hj=>(by cases hj),.nil⟩
 |k+1=>by
  obtain⟨h1,h2,h3,h4⟩:=q3n hp h k;rw[vh];obtain⟨a,b⟩:=qep hp h1 h2 k;refine⟨a,b,?_⟩;rcases q1m p (yf p M k) k with ⟨e,_⟩|⟨e,_⟩
  ·rw[e];exact⟨fun j hj=>Nat.lt_succ_of_lt (h3 j hj),h4⟩
  ·rw[e];refine⟨fun j hj=>?_,List.pairwise_append.2 ⟨h4,by simp,fun x hx y hy=>?_⟩⟩
   ·rcases gO.1 hj with hj|hj
    ·exact Nat.lt_succ_of_lt (h3 j hj)
    ·have:j=k:=by simpa using hj
     omega
   ·have:y=k:=by simpa using hy
    rw[this];exact h3 x hx
theorem q0s {p:Int}(hp:0<p){r m:Nat}{M:List (List Int)}(h:FM p r m M):FM p r m (jk p m M).1/\(jk p m M).2.length<=r/\(∀j∈(jk p m M).2,j<m)/\(jk p m M).2.Pairwise (· < ·):=q3n hp h m
def q2r (p:Int)(m:Nat)(M:List (List Int)):Nat:=(jk p m M).2.length
theorem qap {p:Int}{r m:Nat}{M:List (List Int)}(h:FM p r m M):q2r p m M=0↔∀n∈M.flatten,n=0:=by
 unfold q2r;constructor
 ·intro h0;have ao:∀k,k<=m->(yf p M k)=(M,[]):=fun k=>by
   induction k with
   |zero=>intro _;rfl
   |succ k ih =>
    intro hk;have ih:=ih (by omega);rw[vh,ih];rcases q1m p (M,[]) k with ⟨e,_⟩|⟨e,_⟩
    ·exact e
    ·exfalso
     have Dp:∀d,(yf p M (k+1)).2.length<=(yf p M (k+1+d)).2.length:=fun d=>by
      induction d with
      |zero=>exact nlr _
      |succ d Sq =>
       rw[show k+1+(d+1)=(k+1+d)+1 by omega,vh p M (k+1+d)];rcases q1m p (yf p M (k+1+d)) (k+1+d)with ⟨e,_⟩|⟨e,_⟩
       ·rw[e];exact Sq
       ·rw[e,gw];omega
     have h1:=Dp (m-(k+1));rw[show k+1+(m-(k+1))=m by omega]at h1;have h2:(yf p M (k+1)).2.length=1:=by rw[vh,ih,e];rfl
     have h3:(yf p M m).2.length=0:=h0;omega
  have hz:∀k,k<m->∀i,i<r->j6 (zm M i) k=0:=fun k hk i hi=>by
   have h1:=ao (k+1) (by omega);rw[vh,ao k (by omega)]at h1;rcases q1m p (M,[]) k with ⟨_,e⟩|⟨e,_⟩
   ·have:=q3i e i (gm _);exact this (by show i<0+(M.length-0);rw[h.len];omega)
   ·rw[h1]at e;cases e
  intro n hn;obtain⟨x,hx,oP⟩:=List.mem_flatten.1 hn;obtain⟨i,hi⟩:=bh hx;obtain⟨c,hc⟩:=bh oP;have eu:=(gk.1 hi).1;rw[h.len]at eu;have fx:=(gk.1 hc).1;rw[h.wid x hx]at fx;have:=hz c fx i eu;unfold j6 zm at this;rw[gb,gb,hi]at this;simp only [Option.getD_some]at this;rw[hc]at this;exact this
 ·intro hz;have jK:∀i k,j6 (zm M i) k=0:=fun i k=>by
   unfold j6 zm;rw[gb,gb];cases hx:M[i]? with
   |none=>rfl
   |some x =>
    simp only [Option.getD_some];cases hc:x[k]? with
    |none=>rfl
    |some c=>exact hz c (List.mem_flatten.2 ⟨x,gi hx,gi hc⟩)
  have ao:∀k,yf p M k=(M,[]):=fun k=>by
   induction k with
   |zero=>rfl
   |succ k ih =>
    rw[vh,ih];rcases q1m p (M,[]) k with ⟨e,_⟩|⟨_,i,e⟩
    ·exact e
    ·exact absurd (jK i k) (q1g e).2.2.1
  show (yf p M m).2.length=0;rw[ao m];rfl
def kt (new old:List Int)(j:Nat):List Int:=new.take j++old.drop j
theorem q17 (new old:List Int):kt new old 0=old:=by simp[kt]
theorem q26 {new old:List Int}{n:Nat}(h1:new.length=n)(h2:old.length=n):kt new old n=new:=by unfold kt;rw[gr (by omega),List.drop_eq_nil_of_le (by omega),bl]
theorem q1p {new old:List Int}(h:new.length=old.length)(j:Nat):(kt new old j).length=old.length:=by unfold kt;rw[gw,gD,bF];omega
theorem q3h {new old:List Int}(h:new.length=old.length){j:Nat}(hj:j<old.length):j6 (kt new old j) j=j6 old j:=by unfold j6 kt;rw[gb,gb,gQ (by rw[gD];omega),gD,bB (by omega),Nat.sub_self,List.getElem?_drop,Nat.add_zero]
theorem q2t {new old:List Int}(h:new.length=old.length){j:Nat}(hj:j<old.length):(kt new old j).set j (j6 new j)=kt new old (j+1):=by
 unfold kt;have hl:(new.take j).length=j:=by rw[gD];omega
 have hn:=q09 (l:=new) (j:=j) (by omega);rw[List.set_append_right _ _ (by omega),hl,Nat.sub_self,bJ hj,List.set_cons_zero,gC,hn,Option.toList_some,bj];rfl
theorem q6d {p:Int}{new old:List Int}(h1:∀n∈new,0<=n/\n<p)(h2:∀n∈old,0<=n/\n<p)(j:Nat):∀n∈kt new old j,0<=n/\n<p:=fun n hn=>(gO.1 hn).elim (fun h=>h1 n (gX h)) fun h=>h2 n (bM h)
theorem qg0 {f:Nat->Int}{m j:Nat}(h:j<m):j6 ((List.range m).map f) j=f j:=by unfold j6;rw[gb,List.getElem?_map,List.getElem?_range h];rfl
def qny (ra:List Int)(b:List (List Int))(j k:Nat):Int:=((List.range k).map fun i=>j6 ra i*j6 (zm b i) j).sum
theorem qeq (ra:List Int)(b:List (List Int))(j k:Nat):qny ra b j (k+1)=qny ra b j k+j6 ra k*j6 (zm b k) j:=by unfold qny;rw[bD,gW,List.sum_append];simp
def q2c (p:Int)(m:Nat)(ra:List Int)(b:List (List Int))(k:Nat):List Int:=(List.range m).map fun j=>qny ra b j k%p
theorem q2v (p:Int)(m:Nat)(ra:List Int)(b:List (List Int))(k:Nat):(q2c p m ra b k).length=m:=by simp[q2c]
theorem qer (p:Int)(m:Nat)(ra:List Int)(b:List (List Int)):q2c p m ra b 0=List.replicate m 0:=by
 refine List.ext_getElem (by simp[q2c]) fun i h1 h2=>?_
 simp[q2c,qny]
theorem qes (p:Int)(m:Nat)(ra:List Int)(b:List (List Int)){j k:Nat}(hj:j<m):j6 (q2c p m ra b (k+1)) j=(j6 (q2c p m ra b k) j+j6 ra k*j6 (zm b k) j)%p:=by unfold q2c;rw[qg0 hj,qg0 hj,qeq,Int.emod_add_emod]
theorem qc7 {p:Int}(hp:0<p)(m:Nat)(ra:List Int)(b:List (List Int))(k:Nat):∀n∈q2c p m ra b k,0<=n/\n<p:=fun n hn=>by obtain⟨j,_,rfl⟩:=gj.1 hn;exact q7b _ hp
def mulM (p:Int)(m:Nat)(a b:List (List Int)):List (List Int):=a.map fun ra=>q2c p m ra b ra.length
theorem q4t {p:Int}(hp:0<p){r n m:Nat}{a b:List (List Int)}(ha:FM p r n a):FM p r m (mulM p m a b):=by
 refine⟨by unfold mulM;rw[gp];exact ha.len,fun x hx=>?_,fun x hx=>?_⟩
 ·obtain⟨y,_,rfl⟩:=gj.1 hx;exact q2v _ _ _ _ _
 ·obtain⟨y,_,rfl⟩:=gj.1 hx;exact qc7 hp _ _ _ _
def q2n (m:Nat)(piv:List Nat):List Nat:=(List.range m).filter fun j=>!piv.contains j
def q37 (p:Int)(m:Nat)(M:List (List Int)):List (List Int) :=
 let s:=jk p m M
 (List.range m).map fun i=>(q2n m s.2).map fun j=>match s.2.idxOf? i with
  |some k=>(p-j6 (zm s.1 k) j)%p
  |none=>if i=j then 1 else 0
def q3v (M:List (List Int))(l:List Nat):List (List Int):=M.map fun r=>l.map fun j=>j6 r j
def qnz (p:Int)(m:Nat)(M:List (List Int)):List (List Int):=q3v M (jk p m M).2
def jl (a b:List (List Int)):List (List Int):=List.zipWith (fun x y=>x++y) a b
def qca (p:Int)(n m:Nat)(a b:List (List Int)):Option (List (List Int)) :=
 let s:=jk p (n+m) (jl a b)
 if s.2.any fun j=>n<=j then Z else Y ((List.range n).map fun i=>match s.2.idxOf? i with
  |some k=>(zm s.1 k).drop n
  |none=>List.replicate m 0)
def q3y (m:Nat)(f:Nat->Int):Int:=((List.range m).map f).sum
theorem q7q (f:Nat->Int):q3y 0 f=0:=rfl
theorem vr (m:Nat)(f:Nat->Int):q3y (m+1) f=q3y m f+f m:=by unfold q3y;rw[bD,gW,List.sum_append];simp
theorem q6e {m:Nat}{f g:Nat->Int}(h:∀j,j<m->f j=g j):q3y m f=q3y m g:=by
 induction m with
 |zero=>rfl
 |succ m ih=>rw[vr,vr,ih fun j hj=>h j (by omega),h m (by omega)]
theorem qcc (m:Nat)(f g:Nat->Int):q3y m (fun j=>f j+g j)=q3y m f+q3y m g:=by
 induction m with
 |zero=>rfl
 |succ m ih=>rw[vr,vr,vr,ih];omega
theorem qi0 (m:Nat)(k:Int)(f:Nat->Int):q3y m (fun j=>k*f j)=k*q3y m f:=by
 induction m with
 |zero=>rw[q7q,q7q,Int.mul_zero]
 |succ m ih=>rw[vr,vr,ih,Int.mul_add]
theorem qi1 {m:Nat}{p:Int}{f g:Nat->Int}(h:∀j,j<m->p ∣ f j-g j):p ∣ q3y m f-q3y m g:=by
 induction m with
 |zero=>exact⟨0,by rw[q7q,q7q];simp⟩
 |succ m ih =>rw[vr,vr,show q3y m f+f m-(q3y m g+g m)=(q3y m f-q3y m g)+(f m-g m) by omega];exact Int.dvd_add (ih fun j hj=>h j (by omega)) (h m (by omega))
theorem qcd {m k:Nat}{f:Nat->Int}(hk:k<m)(h:∀j,j<m->j≠k->f j=0):q3y m f=f k:=by
 induction m with
 |zero=>omega
 |succ m ih =>
  rw[vr];by_cases cd:k=m
  ·subst cd;have:q3y k f=0:=by
    rw[q6e (g:=fun _=>0) fun j hj=>h j (by omega) (by omega)];clear ih h hk;induction k with
    |zero=>rfl
    |succ n ih=>rw[vr,ih];rfl
   omega
  ·rw[ih (by omega) fun j hj ah=>h j (by omega) ah,h m (by omega) (fun e=>cd e.symm)];omega
theorem qce {m:Nat}{f:Nat->Int}(h:∀j,j<m->f j=0):q3y m f=0:=by
 induction m with
 |zero=>rfl
 |succ m ih=>rw[vr,ih fun j hj=>h j (by omega),h m (by omega)];rfl
def lin (m:Nat)(c:Nat->Int)(x:List Int):Int:=q3y m fun j=>c j*j6 x j
def Rel (p:Int)(m:Nat)(M:List (List Int))(c:Nat->Int):Prop:=∀x∈M,p ∣ lin m c x
theorem qcf (x p:Int):p ∣ x%p-x:=by rw[Int.emod_def];exact⟨-(x / p),by rw[Int.mul_neg];omega⟩
theorem qcg {f:Int->Int}{l:List Int}{j:Nat}(h:j<l.length):j6 (l.map f) j=f (j6 l j):=by unfold j6;rw[gb,gb,List.getElem?_map,gg h];rfl
theorem q9a {f:Int->Int->Int}{l k:List Int}{j:Nat}(h:j<l.length)(h':j<k.length):j6 (List.zipWith f l k) j=f (j6 l j) (j6 k j):=by unfold j6;rw[gb,gb,gb,List.getElem?_zipWith,gg h,gg h'];rfl
theorem qo1 {p:Int}{m:Nat}(c:Nat->Int){j:Nat}{r:List Int}(hr:r.length=m):p ∣ lin m c (ye p j r)-(ovN p.toNat (j6 r j).toNat:Int)*lin m c r:=by
 unfold lin;rw[<-qi0];refine qi1 fun k hk=>?_
 show p ∣ c k*j6 (ye p j r) k-_*(c k*j6 r k);unfold ye;rw[qcg (by omega),Int.mul_left_comm _ (c k),<-Int.mul_sub,Int.mul_comm _ (j6 r k)];exact Int.dvd_trans (qcf _ p) (Int.dvd_mul_left _ _)
theorem qo2 {p:Int}{m:Nat}(c:Nat->Int){j:Nat}{piv r:List Int}(hr:r.length=m)(hv:piv.length=m)(ah:j6 r j≠0):p ∣ lin m c (vg p j piv r)-(lin m c r+(p-j6 r j)*lin m c piv):=by
 unfold lin;rw[<-qi0,<-qcc];refine qi1 fun k hk=>?_
 show p ∣ c k*j6 (vg p j piv r) k-(c k*j6 r k+_*(c k*j6 piv k));unfold vg;rw[if_neg ah,q9a (by omega) (by omega),Int.mul_left_comm _ (c k),<-Int.mul_add,<-Int.mul_sub,Int.mul_comm _ (j6 piv k)];exact Int.dvd_trans (qcf _ p) (Int.dvd_mul_left _ _)
theorem yl {M:List (List Int)}{i:Nat}{x:List Int}(h:i<M.length):zm (M.set i x) i=x:=by unfold zm;rw[gb,List.getElem?_set,if_pos rfl,if_pos h];rfl
theorem q11 {M:List (List Int)}{i k:Nat}{x:List Int}(h:i≠k):zm (M.set i x) k=zm M k:=by unfold zm;rw[gb,gb,List.getElem?_set,if_neg h]
theorem qch {M:List (List Int)}{g:Nat->List Int->List Int}{k:Nat}(h:k<M.length):zm (M.mapIdx g) k=g k (zm M k):=by unfold zm;rw[gb,gb,List.getElem?_mapIdx,gg h];rfl
theorem qb6 {p:Int}{r m:Nat}{s:List (List Int)×List Nat}(h:FM p r m s.1){j i:Nat}(hf:q25 s.1 j (s.1.length-s.2.length) s.2.length=Y i)(hs:s.2.length<=r):s.2.length<=i/\i<r ∧
  zm (kr p s j).1 s.2.length=ye p j (zm s.1 i)/\(∀k,k<r->k≠s.2.length->zm (kr p s j).1 k=vg p j (ye p j (zm s.1 i)) (if k=i then zm s.1 s.2.length else zm s.1 k)):=by
 obtain⟨h1,h2,_,_⟩:=q1g hf;rw[h.len]at h2;have hi:i<r:=by omega
 have ha:s.2.length<r:=by omega
 have e:(kr p s j).1=((q0f s.1 s.2.length i).set s.2.length (ye p j (zm (q0f s.1 s.2.length i) s.2.length))).mapIdx fun k r=>if k=s.2.length then r else vg p j (ye p j (zm (q0f s.1 s.2.length i) s.2.length)) r:=by unfold kr;rw[hf]
 have NH:∀k,k<r->zm (q0f s.1 s.2.length i) k=if k=s.2.length then zm s.1 i else if k=i then zm s.1 s.2.length else zm s.1 k:=fun k hk=>by
  unfold q0f;by_cases h1:k=i
  ·subst h1;rw[yl (by rw[List.length_set,h.len];exact hk)];by_cases h2:k=s.2.length
   ·rw[if_pos h2,h2]
   ·rw[if_neg h2,if_pos rfl]
  ·rw[q11 (Ne.symm h1)];by_cases h2:k=s.2.length
   ·subst h2;rw[yl (by rw[h.len];exact hk),if_pos rfl]
   ·rw[q11 (Ne.symm h2),if_neg h2,if_neg h1]
 have hl:(q0f s.1 s.2.length i).length=r:=by unfold q0f;rw[List.length_set,List.length_set,h.len]
 have ea:=NH _ ha;rw[if_pos rfl]at ea;rw[ea]at e;refine⟨h1,hi,?_,fun k hk ah=>?_⟩
 ·rw[e,qch (by rw[List.length_set,hl];exact ha),if_pos rfl,yl (by rw[hl];exact ha)]
 ·rw[e,qch (by rw[List.length_set,hl];exact hk),if_neg ah,q11 (Ne.symm ah),NH k hk,if_neg ah]
theorem qf4 {p x:Int}(hp:prN p.toNat=true)(h:0<=x/\x<p)(h0:x≠0):x*(ovN p.toNat x.toNat:Int)%p=1:=by
 have h2:=(yi.1 hp).1;have:=(q6t hp (n:=x.toNat) (by omega) (by omega)).2.2.1;have e:((x.toNat*ovN p.toNat x.toNat%p.toNat:Nat):Int)=1:=by rw[this];rfl
 rw[Int.natCast_emod,Int.natCast_mul,Int.toNat_of_nonneg h.1,Int.toNat_of_nonneg (by omega)]at e;exact e
theorem q9c {p:Int}{r m:Nat}{M:List (List Int)}(h:FM p r m M)(c:Nat->Int):Rel p m M c↔∀i,i<r->p ∣ lin m c (zm M i):=by
 constructor
 ·intro hR i hi;exact hR _ (h.row hi).2.2
 ·intro hR x hx;obtain⟨i,hi⟩:=bh hx;have dT:=(gk.1 hi).1;have:=q1k dT;rw[hi]at this;injection this with this
  rw[this];exact hR i (by rw[<-h.len];exact dT)
theorem qja {p:Int}(hp:prN p.toNat=true){r m:Nat}{s:List (List Int)×List Nat}(h:FM p r m s.1)(hs:s.2.length<=r){j:Nat}(hj:j<m)(c:Nat->Int):Rel p m (kr p s j).1 c↔Rel p m s.1 c:=by
 have cp:0<p:=by have:=(yi.1 hp).1;omega
 rcases q1m p s j with ⟨e,_⟩|⟨_,i,hf⟩
 ·rw[e]
 obtain⟨h1,hi,ha,hk⟩:=qb6 h hf hs;have hF:=(qep cp h hs j).1;have aA:s.2.length<r:=by omega
 rw[q9c hF,q9c h];obtain⟨dT,db,_⟩:=h.row hi;have ah:=(q1g hf).2.2.1;have hinv:=qf4 hp (db _ (gi (q09 (by omega)))) ah;have hn:=qo1 (p:=p) c (j:=j) dT;have mI:(ye p j (zm s.1 i)).length=m:=by rw[(q2k cp j _).1];exact dT
 have fZ:∀x:List Int,x.length=m->p ∣ lin m c (ye p j (zm s.1 i))->(p ∣ lin m c (vg p j (ye p j (zm s.1 i)) x)↔p ∣ lin m c x):=fun x hx hd=>by
  by_cases h0:j6 x j=0
  ·unfold vg;rw[if_pos h0]
  ·have he:=qo2 (p:=p) c hx mI h0;have iZ:p ∣ (p-j6 x j)*lin m c (ye p j (zm s.1 i)):=Int.dvd_trans hd (Int.dvd_mul_left _ _);constructor
   ·intro h5;have:=Int.dvd_sub (Int.dvd_sub h5 he) iZ;rw[show lin m c (vg p j (ye p j (zm s.1 i)) x)-(lin m c (vg p j (ye p j (zm s.1 i)) x)-(lin m c x+(p-j6 x j)*lin m c (ye p j (zm s.1 i))))-(p-j6 x j)*lin m c (ye p j (zm s.1 i))=lin m c x by omega]at this;exact this
   ·intro h5;have:=Int.dvd_add he (Int.dvd_add h5 iZ);rw[show lin m c (vg p j (ye p j (zm s.1 i)) x)-(lin m c x+(p-j6 x j)*lin m c (ye p j (zm s.1 i)))+(lin m c x+(p-j6 x j)*lin m c (ye p j (zm s.1 i)))=lin m c (vg p j (ye p j (zm s.1 i)) x) by omega]at this;exact this
 have NI:p ∣ lin m c (ye p j (zm s.1 i))↔p ∣ lin m c (zm s.1 i):=by
  constructor
  ·intro h5;have h6:p ∣ (ovN p.toNat (j6 (zm s.1 i) j).toNat:Int)*lin m c (zm s.1 i):=by have:=Int.dvd_sub h5 hn;rw[show lin m c (ye p j (zm s.1 i))-(lin m c (ye p j (zm s.1 i))-(ovN p.toNat (j6 (zm s.1 i) j).toNat:Int)*lin m c (zm s.1 i))=(ovN p.toNat (j6 (zm s.1 i) j).toNat:Int)*lin m c (zm s.1 i) by omega]at this;exact this
   have h7:p ∣ j6 (zm s.1 i) j*((ovN p.toNat (j6 (zm s.1 i) j).toNat:Int)*lin m c (zm s.1 i)):=Int.dvd_trans h6 (Int.dvd_mul_left _ _);rw[<-Int.mul_assoc]at h7;have h8:p ∣ (j6 (zm s.1 i) j*(ovN p.toNat (j6 (zm s.1 i) j).toNat:Int)-1)*lin m c (zm s.1 i):=by have:=qcf (j6 (zm s.1 i) j*(ovN p.toNat (j6 (zm s.1 i) j).toNat:Int)) p;rw[hinv]at this;have:=Int.dvd_neg.2 this;rw[show -(1-j6 (zm s.1 i) j*(ovN p.toNat (j6 (zm s.1 i) j).toNat:Int))=j6 (zm s.1 i) j*(ovN p.toNat (j6 (zm s.1 i) j).toNat:Int)-1 by omega]at this;exact Int.dvd_trans this (Int.dvd_mul_right _ _)
   have:=Int.dvd_sub h7 h8;rw[Int.sub_mul,Int.one_mul,show j6 (zm s.1 i) j*(ovN p.toNat (j6 (zm s.1 i) j).toNat:Int)*lin m c (zm s.1 i)-(j6 (zm s.1 i) j*(ovN p.toNat (j6 (zm s.1 i) j).toNat:Int)*lin m c (zm s.1 i)-lin m c (zm s.1 i))=lin m c (zm s.1 i) by omega]at this;exact this
  ·intro h5;have:=Int.dvd_add hn (Int.dvd_trans h5 (Int.dvd_mul_left (ovN p.toNat (j6 (zm s.1 i) j).toNat:Int) _));rw[show lin m c (ye p j (zm s.1 i))-(ovN p.toNat (j6 (zm s.1 i) j).toNat:Int)*lin m c (zm s.1 i)+(ovN p.toNat (j6 (zm s.1 i) j).toNat:Int)*lin m c (zm s.1 i)=lin m c (ye p j (zm s.1 i)) by omega]at this;exact this
 constructor
 ·intro hR k cO;have jP:p ∣ lin m c (ye p j (zm s.1 i)):=by rw[<-ha];exact hR _ aA
  by_cases eO:k=i
  ·rw[eO];exact NI.1 jP
  ·by_cases kW:k=s.2.length
   ·have h5:=hR i hi;by_cases NJ:i=s.2.length
    ·exact absurd (kW.trans NJ.symm) eO
    ·rw[hk i hi NJ,if_pos rfl]at h5;rw[kW];exact(fZ _ (h.row aA).1 jP).1 h5
   ·have h5:=hR k cO;rw[hk k cO kW,if_neg eO]at h5;exact(fZ _ (h.row cO).1 jP).1 h5
 ·intro hR k cO;have jP:p ∣ lin m c (ye p j (zm s.1 i)):=NI.2 (hR i hi);by_cases kW:k=s.2.length
  ·rw[kW,ha];exact jP
  ·rw[hk k cO kW];split
   ·exact(fZ _ (h.row aA).1 jP).2 (hR _ aA)
   ·exact(fZ _ (h.row cO).1 jP).2 (hR k cO)
theorem qaq {p:Int}(hp:prN p.toNat=true){r m:Nat}{M:List (List Int)}(h:FM p r m M)(c:Nat->Int):∀k,k<=m->(Rel p m (yf p M k).1 c↔Rel p m M c)
 |0,_=>Iff.rfl
 |k+1,hk=>by
  have cp:0<p:=by have:=(yi.1 hp).1;omega
  obtain⟨h1,h2,_,_⟩:=q3n cp h k;rw[vh];exact(qja hp h1 h2 (by omega) c).trans (qaq hp h c k (by omega))
structure Ech (k:Nat)(r:Nat)(s:List (List Int)×List Nat):Prop where
 unit:∀t j,s.2[t]? =Y j->∀i,i<r->j6 (zm s.1 i) j=if i=t then 1 else 0
 low:∀i,i<r->s.2.length<=i->∀j,j<k->j6 (zm s.1 i) j=0
 lead:∀t j,s.2[t]? =Y j->∀j',j'<j->j6 (zm s.1 t) j'=0
theorem qf5 {p:Int}{j:Nat}{piv x:List Int}{m j':Nat}(hx:x.length=m)(hv:piv.length=m)(hj:j'<m)(h0:j6 piv j'=0)(hr:0<=j6 x j'/\j6 x j'<p):j6 (vg p j piv x) j'=j6 x j':=by
 unfold vg;split
 ·rfl
 ·rw[q9a (by omega) (by omega),h0,Int.zero_mul,bA];exact Int.emod_eq_of_lt hr.1 hr.2
theorem qg1 {p:Int}{j j':Nat}{x:List Int}(h:j'<x.length):j6 (ye p j x) j'=j6 x j'*(ovN p.toNat (j6 x j).toNat:Int)%p:=by unfold ye;rw[qcg h]
theorem qjb {p:Int}(hp:prN p.toNat=true){r m k:Nat}{s:List (List Int)×List Nat}(h:FM p r m s.1)(hs:s.2.length<=r)(hk:k<m)(ak:∀j∈s.2,j<k)(hE:Ech k r s):Ech (k+1) r (kr p s k)/\∀i,i<r->∀j,j<k->(j∈s.2\/s.2.length<=i\/True)->j6 (zm (kr p s k).1 i) j=j6 (zm s.1 i) j:=by
 have cp:0<p:=by have:=(yi.1 hp).1;omega
 have ng:1<p:=by have:=(yi.1 hp).1;omega
 rcases q1m p s k with ⟨e,hf⟩|⟨e2,i0,hf⟩
 ·rw[e];refine⟨⟨hE.unit,fun i hi hl j hj=>?_,hE.lead⟩,fun _ _ _ _ _=>rfl⟩;rcases gG j k with mH|mH
  ·exact hE.low i hi hl j mH
  ·rw[show j=k by omega];exact q3i hf i hl (by rw[h.len];omega)
 ·obtain⟨g1,g2,g3,g4⟩:=qb6 h hf hs;obtain⟨_,_,ah,_⟩:=q1g hf;have bY:s.2.length<r:=by omega
  obtain⟨dT,db,_⟩:=h.row g2;have mI:(ye p k (zm s.1 i0)).length=m:=by rw[(q2k cp k _).1];exact dT
  have hinv:=qf4 hp (h.at g2 hk) ah;have NK:j6 (ye p k (zm s.1 i0)) k=1:=by rw[qg1 (by omega)];exact hinv
  have B8:∀j,j<k->j6 (ye p k (zm s.1 i0)) j=0:=fun j hj=>by rw[qg1 (by omega),hE.low i0 g2 g1 j hj,Int.zero_mul];rfl
  have oB:∀i,i<r->∀j,j<k->j6 (zm (kr p s k).1 i) j=j6 (zm s.1 i) j:=fun i hi j hj=>by
   by_cases ha:i=s.2.length
   ·rw[ha,g3,B8 j hj,hE.low _ bY (nlr _) j hj]
   ·rw[g4 i hi ha];by_cases zH:i=i0
    ·rw[if_pos zH,qf5 (h.row bY).1 mI (by omega) (B8 j hj) (h.at bY (by omega)),hE.low _ bY (nlr _) j hj,zH,hE.low _ g2 g1 j hj]
    ·rw[if_neg zH,qf5 (h.row hi).1 mI (by omega) (B8 j hj) (h.at hi (by omega))]
  have pe:∀i,i<r->j6 (zm (kr p s k).1 i) k=if i=s.2.length then 1 else 0:=fun i hi=>by
   by_cases ha:i=s.2.length
   ·rw[if_pos ha,ha,g3,NK]
   ·rw[if_neg ha,g4 i hi ha];have key:∀x:List Int,x.length=m->j6 (vg p k (ye p k (zm s.1 i0)) x) k=0:=fun x hx=>by
     unfold vg;split
     ·assumption
     ·rw[q9a (by omega) (by omega),NK,Int.one_mul,show j6 x k+(p-j6 x k)=p by omega,Int.emod_self]
    split
    ·exact key _ (h.row bY).1
    ·exact key _ (h.row hi).1
  refine⟨⟨fun t j htj i hi=>?_,fun i hi hl j hj=>?_,fun t j htj j' uv=>?_⟩,fun i hi j hj _=>oB i hi j hj⟩
  ·rw[e2]at htj;rcases gG t s.2.length with ht|ht
   ·rw[gU ht]at htj;rw[oB i hi j (ak j (gi htj))];exact hE.unit t j htj i hi
   ·rw[gQ ht]at htj;have C4:t-s.2.length=0:=by
     rcases Nat.eq_zero_or_pos (t-s.2.length)with h0|h0
     ·exact h0
     ·rw[List.getElem?_eq_none (by simp;omega)]at htj;cases htj
    rw[C4]at htj;have hj:k=j:=by simpa using htj
    subst hj;rw[pe i hi,show t=s.2.length by omega]
  ·rw[e2,gw]at hl;have hl:s.2.length+1<=i:=hl;rcases gG j k with mH|mH
   ·rw[oB i hi j mH];exact hE.low i hi (by omega) j mH
   ·rw[show j=k by omega,pe i hi,if_neg (by omega)]
  ·rw[e2]at htj;rcases gG t s.2.length with ht|ht
   ·rw[gU ht]at htj;have:=ak j (gi htj);rw[oB t (by omega) j' (by omega)];exact hE.lead t j htj j' uv
   ·rw[gQ ht]at htj;have C4:t-s.2.length=0:=by
     rcases Nat.eq_zero_or_pos (t-s.2.length)with h0|h0
     ·exact h0
     ·rw[List.getElem?_eq_none (by simp;omega)]at htj;cases htj
    rw[C4]at htj;have hj:k=j:=by simpa using htj
    subst hj;rw[show t=s.2.length by omega,g3];exact B8 j' uv
theorem qas {p:Int}(hp:prN p.toNat=true){r m:Nat}{M:List (List Int)}(h:FM p r m M):∀k,k<=m->Ech k r (yf p M k)
 |0,_=>⟨(fun t j h=>by cases h),fun _ _ _ j hj=>by omega,(fun t j h=>by cases h)⟩
 |k+1,hk=>by
  have cp:0<p:=by have:=(yi.1 hp).1;omega
  obtain⟨h1,h2,h3,_⟩:=q3n cp h k;rw[vh];exact(qjb hp h1 h2 (by omega) h3 (qas hp h k (by omega))).1
theorem qf6 (p:Int)(M:List (List Int))(k:Nat):∀d,∃l,(yf p M (k+d)).2=(yf p M k).2++l/\∀j∈l,k<=j
 |0=>⟨[],by simp,(fun _ h=>by cases h)⟩
 |d+1=>by
  obtain⟨l,h1,h2⟩:=qf6 p M k d;rw[show k+(d+1)=(k+d)+1 by omega,vh];rcases q1m p (yf p M (k+d)) (k+d)with ⟨e,_⟩|⟨e,_⟩
  ·rw[e];exact⟨l,h1,h2⟩
  ·rw[e,h1];refine⟨l++[k+d],by simp,fun j hj=>?_⟩;rcases gO.1 hj with hj|hj
   ·exact h2 j hj
   ·have:j=k+d:=by simpa using hj
    omega
def Dep (p:Int)(m:Nat)(M:List (List Int))(j:Nat):Prop:=∃c:Nat->Int,Rel p m M c/\¬p ∣ c j/\∀i,j<i->c i=0
def qm4 (N:List (List Int))(piv:List Nat)(j:Nat):Nat->Int:=fun i=>if i=j then 1 else match piv.idxOf? i with
 |some t=>-j6 (zm N t) j
 |none=>0
theorem idxOf?_some {l:List Nat}{i t:Nat}(h:l.idxOf? i=Y t):l[t]? =Y i:=by unfold List.idxOf? at h;obtain⟨h1,h2,_⟩:=List.findIdx?_eq_some_iff_getElem.1 h;rw[gg h1];simpa using h2
theorem idxOf?_none {l:List Nat}{i:Nat}(h:l.idxOf? i=Z):i ∉ l:=by unfold List.idxOf? at h;intro hm;have:=List.findIdx?_eq_none_iff.1 h i hm;simp at this
theorem qo5 {l:List Nat}(h:l.Pairwise (· < ·)){i t t':Nat}(h1:l[t]? =Y i)(h2:l[t']? =Y i):t=t':=by
 obtain⟨a1,a2⟩:=gk.1 h1;obtain⟨b1,b2⟩:=gk.1 h2;rw[bb]at h;rcases Nat.lt_trichotomy t t' with hl|hl|hl
 ·have:=h t t' a1 b1 hl;omega
 ·exact hl
 ·have:=h t' t b1 a1 hl;omega
theorem qo6 {r m j:Nat}{N:List (List Int)}{piv:List Nat}(hu:∀t k,piv[t]? =Y k->∀i,i<r->j6 (zm N i) k=if i=t then 1 else 0)(hs:piv.Pairwise (· < ·))(hm:∀k∈piv,k<m)(hj:j<m)(zI:j ∉ piv){i:Nat}(hi:i<r)(uC:piv.length<=i->j6 (zm N i) j=0):lin m (qm4 N piv j) (zm N i)=0:=by
 have Dq:∀k,k<m->qm4 N piv j k*j6 (zm N i) k=(if k=j then j6 (zm N i) j else 0)+(if piv[i]? =Y k then -j6 (zm N i) j else 0):=fun k hk=>by
  unfold qm4;by_cases wT:k=j
  ·subst wT;rw[if_pos rfl,if_pos rfl,Int.one_mul,if_neg (fun e=>zI (gi e))];omega
  ·rw[if_neg wT,if_neg wT];cases hx:piv.idxOf? k with
   |some t =>
    have ht:=idxOf?_some hx;rw[hu t k ht i hi];by_cases hit:i=t
    ·subst hit;rw[if_pos rfl,if_pos ht];simp
    ·rw[if_neg hit,if_neg (fun e=>hit (qo5 hs e ht))];simp
   |none =>rw[if_neg (fun e=>idxOf?_none hx (gi e))];simp
 unfold lin;rw[q6e Dq,qcc,qcd hj (fun k _ hk=>if_neg hk),if_pos rfl];cases hp:piv[i]? with
 |some k =>rw[qcd (k:=k) (hm k (gi hp)) (fun k' _ jT=>if_neg fun e=>jT (by injection e with e;exact e.symm)),if_pos rfl];omega
 |none =>rw[qce fun k _=>if_neg (by simp),uC (List.getElem?_eq_none_iff.1 hp)];rfl
theorem qr5 {p:Int}(hp:prN p.toNat=true){r m:Nat}{M:List (List Int)}(h:FM p r m M){j:Nat}(hj:j<m):j∈(jk p m M).2↔¬Dep p m M j:=by
 have cp:0<p:=by have:=(yi.1 hp).1;omega
 constructor
 ·intro hm;rintro ⟨c,hc,ah,hz⟩;obtain⟨t,ht⟩:=bh hm;have hE:=qas hp h m (nlr _);have hl:=(qaq hp h c m (nlr _)).2 hc;have mi:t<r:=by have h1:=(gk.1 ht).1;have h2:=(q0s cp h).2.1;omega
  have hF:=(q3n cp h m).1;have:=hl _ (hF.row mi).2.2;unfold lin at this;rw[qcd hj fun k hk wT=>?_,hE.unit t j ht t mi,if_pos rfl,Int.mul_one]at this
  ·exact ah this
  ·rcases gG k j with aZ|aZ
   ·rw[hE.lead t j ht k aZ,Int.mul_zero]
   ·rw[hz k (by omega),Int.zero_mul]
 ·intro hd;apply gN;intro hm;refine hd ?_;have hE:=qas hp h j (by omega);obtain⟨hF,hlen,ak,Dr⟩:=q3n cp h j;have Sr:j ∉ (yf p M (j+1)).2:=fun cG=>by obtain⟨l,e,_⟩:=qf6 p M (j+1) (m-(j+1));rw[show j+1+(m-(j+1))=m by omega]at e;refine hm ?_;show j∈(yf p M m).2;rw[e];exact List.mem_append_left _ cG
  have Ds:q25 (yf p M j).1 j ((yf p M j).1.length-(yf p M j).2.length) (yf p M j).2.length=none:=by
   rcases q1m p (yf p M j) j with ⟨_,e⟩|⟨e,_⟩
   ·exact e
   ·exact absurd (by rw[vh,e];simp) Sr
  have zI:j ∉ (yf p M j).2:=fun cG=>Nat.lt_irrefl _ (ak j cG)
  refine⟨qm4 (yf p M j).1 (yf p M j).2 j,(qaq hp h _ j (by omega)).1 ((q9c hF _).2 fun i hi=>?_),?_,fun i hi=>?_⟩
  ·rw[qo6 hE.unit Dr (fun k hk=>Nat.lt_trans (ak k hk) hj) hj zI hi fun hl=>q3i Ds i hl (by rw[hF.len];omega)];exact⟨0,by simp⟩
  ·unfold qm4;rw[if_pos rfl];intro eD;have:=Int.le_of_dvd (by omega) eD;have:=(yi.1 hp).1;omega
  ·unfold qm4;rw[if_neg (by omega)];cases hx:(yf p M j).2.idxOf? i with
   |some t=>exact absurd (ak i (gi (idxOf?_some hx))) (by omega)
   |none=>rfl
def Ind (p:Int)(m:Nat)(M:List (List Int)):Prop:=∀c,Rel p m M c->∀j,j<m->p ∣ c j
