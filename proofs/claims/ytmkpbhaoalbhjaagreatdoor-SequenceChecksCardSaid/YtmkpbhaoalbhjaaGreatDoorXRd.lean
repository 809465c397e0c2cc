/- Steps towards SequenceChecks. Conditions: none. -/
import Derived.Test.YtmkpbhaoalbhjaaGreatDoorXRc
set_option maxRecDepth 1000000
set_option maxHeartbeats 0
open Option renaming some→Y
namespace Go.Cx
theorem qo7 {s:List Nat}(h:s.Nodup){i t t':Nat}(h1:s[t]? =Y i)(h2:s[t']? =Y i):t=t':=by
 obtain⟨a1,a2⟩:=gk.1 h1;obtain⟨b1,b2⟩:=gk.1 h2;have h:=bb.1 h;rcases Nat.lt_trichotomy t t' with hl|hl|hl
 ·exact absurd (a2.trans b2.symm) (h t t' a1 b1 hl)
 ·exact hl
 ·exact absurd (b2.trans a2.symm) (h t' t b1 a1 hl)
theorem qbk {p:Int}{r m:Nat}{M:List (List Int)}(h:FM p r m M){s:List Nat}(hs:∀j∈s,j<m):FM p r s.length (q3v M s):=by
 refine⟨by unfold q3v;rw[gp];exact h.len,fun x hx=>?_,fun x hx n hn=>?_⟩
 ·obtain⟨y,_,rfl⟩:=gj.1 hx;rw[gp]
 ·obtain⟨y,hy,rfl⟩:=gj.1 hx;obtain⟨j,hj,rfl⟩:=gj.1 hn;exact h.res y hy _ (gi (q09 (by rw[h.wid y hy];exact hs j hj)))
theorem q0u {p:Int}{r a b:Nat}{A B:List (List Int)}(hA:FM p r a A)(hB:FM p r b B):FM p r (a+b) (jl A B):=by
 have key:∀x∈jl A B,∃u∈A,∃v∈B,x=u++v:=fun x hx=>by
  unfold jl at hx;obtain⟨i,hi⟩:=bh hx;rw[List.getElem?_zipWith]at hi;split at hi
  ·rename_i u v hu hv;injection hi with hi
   exact⟨u,gi hu,v,gi hv,hi.symm⟩
  ·cases hi
 refine⟨by unfold jl;rw[List.length_zipWith,hA.len,hB.len,Nat.min_self],fun x hx=>?_,fun x hx n hn=>?_⟩
 ·obtain⟨u,hu,v,hv,rfl⟩:=key x hx;rw[gw,hA.wid u hu,hB.wid v hv]
 ·obtain⟨u,hu,v,hv,rfl⟩:=key x hx;exact(gO.1 hn).elim (hA.res u hu n) (hB.res v hv n)
theorem qf9 {x y:List Int}{j:Nat}(h:j<x.length):j6 (x++y) j=j6 x j:=by unfold j6;rw[gb,gb,gU h]
theorem qfb (x y:List Int)(j:Nat):j6 (x++y) (x.length+j)=j6 y j:=by unfold j6;rw[gb,gb,gQ (by omega),Nat.add_sub_cancel_left]
def qg2 (p:Int)(b q:Nat)(An K:List (List Int)):List Nat:=((jk p (b+q) (jl An K)).2.filter fun j=>decide (b<=j)).map fun j=>j-b
def Spn (p:Int)(r n:Nat)(M:List (List Int))(v:Nat->Int):Prop:=∃y:Nat->Int,∀i,i<r->p ∣ lin n y (zm M i)-v i
section
variable {p:Int}{r n:Nat}{M:List (List Int)}
theorem Spn.qvi {v u:Nat->Int}(h:Spn p r n M v)(e:∀i,i<r->p ∣ v i-u i):Spn p r n M u:=by obtain⟨y,hy⟩:=h;refine⟨y,fun i hi=>?_⟩;have:=Int.dvd_add (hy i hi) (e i hi);rw[show lin n y (zm M i)-v i+(v i-u i)=lin n y (zm M i)-u i by omega]at this;exact this
theorem qr6 (y z:Nat->Int)(x:List Int):lin n (fun j=>y j+z j) x=lin n y x+lin n z x:=by unfold lin;rw[<-qcc];exact q6e fun j _=>Int.add_mul _ _ _
theorem qo8 (x:List Int):lin n (fun _=>0) x=0:=qce fun _ _=>Int.zero_mul _
theorem Spn.zero:Spn p r n M (fun _=>0):=⟨fun _=>0,fun i _=>by rw[qo8];exact⟨0,by simp⟩⟩
theorem Spn.add {v u:Nat->Int}(h:Spn p r n M v)(k:Spn p r n M u):Spn p r n M fun i=>v i+u i:=by obtain⟨y,hy⟩:=h;obtain⟨z,hz⟩:=k;refine⟨fun j=>y j+z j,fun i hi=>?_⟩;rw[qr6];have:=Int.dvd_add (hy i hi) (hz i hi);rw[show lin n y (zm M i)-v i+(lin n z (zm M i)-u i)=lin n y (zm M i)+lin n z (zm M i)-(v i+u i) by omega]at this;exact this
theorem Spn.sum {f:Nat->Nat->Int} : ∀ {m:Nat},(∀j,j<m->Spn p r n M fun i=>f j i)->Spn p r n M fun i=>q3y m fun j=>f j i
 |0,_=>Spn.zero
 |m+1,h=>by
  have:=(Spn.sum (m:=m) fun j hj=>h j (by omega)).add (h m (by omega));refine this.qvi fun i _=>?_
  rw[vr,Int.sub_self];exact⟨0,by simp⟩
end
theorem qr7 {a b:Nat}(y:Nat->Int){x z:List Int}(hx:x.length=a):lin (a+b) y (x++z)=lin a y x+lin b (fun j=>y (a+j)) z:=by
 induction b with
 |zero =>show q3y a _=q3y a _+0;rw[bA];exact q6e fun j hj=>by rw[qf9 (by omega)]
 |succ b ih =>unfold lin at ih ⊢;rw[show a+(b+1)=(a+b)+1 by omega,vr,ih,vr,<-hx,qfb,Int.add_assoc]
theorem qci {p:Int}{r a b:Nat}{A B:List (List Int)}(hA:FM p r a A)(hB:FM p r b B){i:Nat}(hi:i<r):zm (jl A B) i=zm A i++zm B i:=by have h1:=q1k (M:=A) (i:=i) (by rw[hA.len];exact hi);have h2:=q1k (M:=B) (i:=i) (by rw[hB.len];exact hi);unfold jl;show (List.zipWith _ A B).getD i []=_;rw[gb,List.getElem?_zipWith,h1,h2];rfl
theorem qr8 {p:Int}{m:Nat}{M:List (List Int)}{i:Nat}(hi:i<m):zm (q37 p m M) i=(q2n m (jk p m M).2).map fun j=>match (jk p m M).2.idxOf? i with
  |some k=>(p-j6 (zm (jk p m M).1 k) j)%p
  |none=>if i=j then 1 else 0:=by
 unfold q37;show ((List.range m).map _).getD i []=_;rw[gb,List.getElem?_map,List.getElem?_range hi];rfl
theorem qcj {p:Int}(hp:1<p){m:Nat}{M:List (List Int)} : FM p m (q2n m (jk p m M).2).length (q37 p m M):=by
 refine⟨by simp[q37],fun x hx=>?_,fun x hx n hn=>?_⟩
 ·obtain⟨i,_,rfl⟩:=gj.1 hx;rw[gp]
 ·obtain⟨i,_,rfl⟩:=gj.1 hx;obtain⟨j,_,rfl⟩:=gj.1 hn;split
  ·exact q7b _ (by omega)
  ·split <;> omega
theorem qck:∀ {l k:List Nat},l.Pairwise (· < ·)->k.Pairwise (· < ·)->(∀x,x∈l↔x∈k)->l=k
 |[],[],_,_,_=>rfl
 |[],b :: k,_,_,h=>by have:=(h b).2 (by simp);cases this
 |a :: l,[],_,_,h=>by have:=(h a).1 (by simp);cases this
 |a :: l,b :: k,hl,hk,h=>by
  obtain⟨l1,l2⟩:=gJ.1 hl;obtain⟨k1,k2⟩:=gJ.1 hk;have pZ:a=b:=by
   rcases gH.1 ((h a).1 (by simp))with e|e
   ·exact e
   ·rcases gH.1 ((h b).2 (by simp))with e'|e'
    ·exact e'.symm
    ·have:=k1 a e;have:=l1 b e';omega
  subst pZ;rw[qck l2 k2 fun x=>?_];constructor
  ·intro hx;rcases gH.1 ((h x).1 (by simp[hx]))with e|e
   ·have:=l1 x hx;omega
   ·exact e
  ·intro hx;rcases gH.1 ((h x).2 (by simp[hx]))with e|e
   ·have:=k1 x hx;omega
   ·exact e
theorem qr9 {p:Int}(hp:prN p.toNat=true){r b q:Nat}{An K:List (List Int)}(hI:FM p r b An)(hK:FM p r q K)(hi:Ind p b An){j:Nat}(hj:j<b):j∈(jk p (b+q) (jl An K)).2:=by
 have hF:=q0u hI hK;refine(qr5 hp hF (by omega)).2 ?_;rintro ⟨c,hc,ah,hz⟩;refine ah (hi c ((q9c hI c).2 fun i hi=>?_) j hj);have:=hc _ (hF.row hi).2.2;rw[qci hI hK hi,qr7 _ (hI.row hi).1]at this;have e:lin q (fun t=>c (b+t)) (zm K i)=0:=qce fun t _=>by dsimp only;rw[hz (b+t) (by omega),Int.zero_mul]
 rw[e,bA]at this;exact this
theorem qua {p:Int}(hp:prN p.toNat=true){r b q:Nat}{An K:List (List Int)}(hI:FM p r b An)(hK:FM p r q K)(hi:Ind p b An):(jk p (b+q) (jl An K)).2=List.range b++(qg2 p b q An K).map fun j=>b+j:=by
 have cp:0<p:=by have:=(yi.1 hp).1;omega
 obtain⟨_,_,h3,h4⟩:=q0s cp (q0u hI hK);have hs:((qg2 p b q An K).map fun j=>b+j)=(jk p (b+q) (jl An K)).2.filter fun j=>decide (b<=j):=by
  unfold qg2;rw[List.map_map]
  conv=>rhs;rw[<-List.map_id ((jk p (b+q) (jl An K)).2.filter fun j=>decide (b<=j))]
  refine List.map_congr_left fun j hj=>?_
  have:b<=j:=by simpa using (gS.1 hj).2
  show b+(j-b)=j;omega
 rw[hs];refine qck h4 (List.pairwise_append.2 ⟨List.pairwise_lt_range,h4.filter _,fun x hx y hy=>?_⟩) fun x=>?_
 ·have h1:=gF.1 hx;have h2:b<=y:=by simpa using (gS.1 hy).2
  omega
 ·rw[gO,gF,gS];constructor
  ·intro hx;rcases gG x b with h|h
   ·exact .inl h
   ·exact .inr ⟨hx,by simpa using h⟩
  ·rintro (h|⟨h,_⟩)
   ·exact qr9 hp hI hK hi h
   ·exact h
theorem qt5 {p:Int}(hp:prN p.toNat=true){r b q:Nat}{An K:List (List Int)}(hI:FM p r b An)(hK:FM p r q K):∀j∈qg2 p b q An K,j<q:=fun j hj=>by
 have cp:0<p:=by have:=(yi.1 hp).1;omega
 unfold qg2 at hj;obtain⟨k,hk,rfl⟩:=gj.1 hj;obtain⟨h1,h2⟩:=gS.1 hk;have h2:b<=k:=by simpa using h2
 have:=(q0s cp (q0u hI hK)).2.2.1 k h1;omega
theorem qg3 {p:Int}(hp:0<p){r n m:Nat}{A B X:List (List Int)}(hA:FM p r n A)(hB:FM p r m B)(h:qca p n m A B=Y X):FM p n m X:=by
 unfold qca at h
 dsimp only at h
 split at h
 ·cases h
 ·injection h with h
  subst h;have hR:=q0s hp (q0u hA hB);have key:∀i,(match (jk p (n+m) (jl A B)).2.idxOf? i with|some k=>(zm (jk p (n+m) (jl A B)).1 k).drop n|none=>List.replicate m 0).length=m/\∀x∈(match (jk p (n+m) (jl A B)).2.idxOf? i with|some k=>(zm (jk p (n+m) (jl A B)).1 k).drop n|none=>List.replicate m 0),0<=x/\x<p:=fun i=>by
   split
   ·rename_i k hk;have aZ:=(gk.1 (idxOf?_some hk)).1;obtain⟨h1,h2,_⟩:=hR.1.row (i:=k) (by have:=hR.2.1;omega);exact⟨by rw[bF,h1];omega,fun x hx=>h2 x (bM hx)⟩
   ·exact⟨List.length_replicate,fun x hx=>by rw[List.eq_of_mem_replicate hx];omega⟩
  refine⟨by simp,fun x hx=>?_,fun x hx=>?_⟩
  ·obtain⟨i,_,rfl⟩:=gj.1 hx;exact(key i).1
  ·obtain⟨i,_,rfl⟩:=gj.1 hx;exact(key i).2
theorem qi2 {m:Nat} : ∀ {M:List (List Int)},(∀x∈M,x.length=m)->∀ {i:Nat},i<M.length->(M.flatten.drop (i*m)).take m=zm M i
 |[],_,_,h=>absurd h (by simp)
 |x :: M,hw,0,_=>by have hx:=hw x (by simp);rw[List.flatten_cons,Nat.zero_mul,List.drop_zero,List.take_append_of_le_length (by omega),gr (by omega)];rfl
 |x :: M,hw,i+1,h=>by have hx:=hw x (by simp);rw[List.flatten_cons,show (i+1)*m=x.length+i*m by rw[hx,Nat.add_mul];omega,List.drop_length_add_append];exact qi2 (M:=M) (fun y hy=>hw y (by simp[hy])) (by simpa using h)
theorem q3z {p:Int}{r m:Nat}{M:List (List Int)}(h:FM p r m M){i:Nat}(hi:i<r):(M.flatten.drop (i*m)).take m=zm M i:=qi2 h.wid (by rw[h.len];exact hi)
theorem FM.q1d {p:Int}{r m:Nat}{M:List (List Int)}(h:FM p r m M):M.flatten.length=r*m:=by rw[q6u h.wid,h.len]
theorem FM.qt6 {p:Int}{r m:Nat}{M:List (List Int)}(h:FM p r m M):∀n∈M.flatten,0<=n/\n<p:=fun n hn=>by obtain⟨x,hx,oP⟩:=List.mem_flatten.1 hn;exact h.res x hx n oP
def q8e (F:List (List Int))(z:List Int)(r i:Nat):List (List Int):=F.take i++List.replicate (r-i) z
def q2b (F:List (List Int))(z:List Int)(r i:Nat)(row:List Int):List (List Int):=F.take i++row :: List.replicate (r-i-1) z
section
variable {F:List (List Int)}{z:List Int}{r i m:Nat}
theorem qcl:q8e F z r 0=List.replicate r z:=by simp[q8e]
theorem qkt (h:i<r):q8e F z r i=q2b F z r i z:=by unfold q8e q2b;rw[show r-i=(r-i-1)+1 by omega,List.replicate_succ,Nat.add_sub_cancel]
theorem qkv (hF:F.length=r)(h:i<r):q2b F z r i (zm F i)=q8e F z r (i+1):=by
 unfold q8e q2b;rw[gC,q1k (by omega),Option.toList_some,bj]
 congr 1
theorem qcm (hF:F.length=r):q8e F z r r=F:=by unfold q8e;rw[Nat.sub_self,List.replicate_zero,bl,gr (by omega)]
theorem q7r (hF:F.length=r)(h:i<r)(row:List Int):(q2b F z r i row).length=r:=by unfold q2b;rw[gw,gD,gV,List.length_replicate];omega
theorem q7s (hF:∀x∈F,x.length=m)(hz:z.length=m){row:List Int}(hr:row.length=m):∀x∈q2b F z r i row,x.length=m:=fun x hx=>by
 unfold q2b at hx;rcases gO.1 hx with h|h
 ·exact hF x (gX h)
 ·rcases gH.1 h with h|h
  ·rw[h];exact hr
  ·rw[List.eq_of_mem_replicate h];exact hz
theorem qfc (hF:F.length=r)(h:i<r)(row:List Int):zm (q2b F z r i row) i=row:=by unfold zm q2b;rw[gb,gQ (by rw[gD];omega),gD,bB (by omega),Nat.sub_self];rfl
theorem qm5 (hF:F.length=r)(h:i<r)(row Dt:List Int):(q2b F z r i row).set i Dt=q2b F z r i Dt:=by unfold q2b;rw[List.set_append_right _ _ (by rw[gD];omega),gD,bB (by omega),Nat.sub_self];rfl
theorem qfd (hF:F.length=r)(hw:∀x∈F,x.length=m)(hz:z.length=m)(h:i<r){row:List Int}(hr:row.length=m){j:Nat}(hj:j<m):(q2b F z r i row).flatten[i*m+j]? =Y (j6 row j):=by rw[flat_get (q7s hw hz hr) (by rw[q7r hF h];exact h) hj,qfc hF h]
theorem qff (hF:F.length=r)(hw:∀x∈F,x.length=m)(hz:z.length=m)(h:i<r){row:List Int}(hr:row.length=m){j:Nat}(hj:j<m)(v:Int):(q2b F z r i row).flatten.set (i*m+j) v=(q2b F z r i (row.set j v)).flatten:=by rw[q1r v (q7s hw hz hr) (by rw[q7r hF h];exact h) hj,qfc hF h,qm5 hF h]
end
theorem qat (m:Nat):∀r,(List.replicate r (List.replicate m (0:Int))).flatten=List.replicate (r*m) 0
 |0=>by simp
 |r+1=>by rw[List.replicate_succ,List.flatten_cons,qat m r,List.replicate_append_replicate,Nat.add_mul,Nat.one_mul,Nat.add_comm]
def trM (r c:Nat)(M:List (List Int)):List (List Int):=(List.range c).map fun j=>(List.range r).map fun i=>j6 (zm M i) j
theorem qra {r c:Nat}{M:List (List Int)}{j:Nat}(h:j<c):zm (trM r c M) j=(List.range r).map fun i=>j6 (zm M i) j:=by unfold trM;show ((List.range c).map _).getD j []=_;rw[gb,List.getElem?_map,List.getElem?_range h];rfl
theorem qg4 {r c:Nat}{M:List (List Int)}{i j:Nat}(hi:i<r)(hj:j<c):j6 (zm (trM r c M) j) i=j6 (zm M i) j:=by rw[qra hj];exact qg0 hi
theorem q8j {p:Int}{r c:Nat}{M:List (List Int)}(h:FM p r c M):FM p c r (trM r c M):=by
 refine⟨by simp[trM],fun x hx=>?_,fun x hx n hn=>?_⟩
 ·obtain⟨j,_,rfl⟩:=gj.1 hx;simp
 ·obtain⟨j,hj,rfl⟩:=gj.1 hx;obtain⟨i,hi,rfl⟩:=gj.1 hn;exact h.at (gF.1 hi) (gF.1 hj)
theorem qt7 {x y:List Int}{m:Nat}(hx:x.length=m)(hy:y.length=m)(h:∀j,j<m->j6 x j=j6 y j):x=y:=by
 refine List.ext_getElem? fun j=>?_
 rcases gG j m with hj|hj
 ·rw[q09 (by omega),q09 (by omega),h j hj]
 ·rw[List.getElem?_eq_none (by omega),List.getElem?_eq_none (by omega)]
theorem FM.ext {p q:Int}{r m:Nat}{M N:List (List Int)}(hM:FM p r m M)(hN:FM q r m N)(h:∀i,i<r->∀j,j<m->j6 (zm M i) j=j6 (zm N i) j):M=N:=by
 refine List.ext_getElem? fun i=>?_
 rcases gG i r with hi|hi
 ·rw[q1k (by rw[hM.len];exact hi),q1k (by rw[hN.len];exact hi),qt7 (hM.row hi).1 (hN.row hi).1 (h i hi)]
 ·rw[List.getElem?_eq_none (by rw[hM.len];exact hi),List.getElem?_eq_none (by rw[hN.len];exact hi)]
theorem FM.app {p:Int}{r s m:Nat}{M N:List (List Int)}(hM:FM p r m M)(hN:FM p s m N):FM p (r+s) m (M++N) :=
 ⟨by rw[gw,hM.len,hN.len],fun x hx=>(gO.1 hx).elim (hM.wid x) (hN.wid x),fun x hx=>(gO.1 hx).elim (hM.res x) (hN.res x)⟩
theorem qm6 {M N:List (List Int)}{i:Nat}(h:i<M.length):zm (M++N) i=zm M i:=by unfold zm;rw[gb,gb,gU h]
theorem qm7 (M N:List (List Int))(i:Nat):zm (M++N) (M.length+i)=zm N i:=by unfold zm;rw[gb,gb,gQ (by omega),Nat.add_sub_cancel_left]
theorem qo9 {p:Int}{r s m:Nat}{M N:List (List Int)}(hM:FM p r m M)(hN:FM p s m N):trM m (r+s) (jl (trM r m M) (trM s m N))=M++N:=by
 have hJ:=q0u (q8j hM) (q8j hN);refine FM.ext (q8j hJ) (hM.app hN) fun i hi j hj=>?_
 rw[qg4 hj hi,qci (q8j hM) (q8j hN) hj];rcases gG i r with h|h
 ·rw[qf9 (by rw[((q8j hM).row hj).1];exact h),qg4 h hj,qm6 (by rw[hM.len];exact h)]
 ·obtain⟨k,rfl⟩:∃k,i=r+k:=⟨i-r,by omega⟩
  have e1:=qfb (zm (trM r m M) j) (zm (trM s m N) j) k;rw[((q8j hM).row hj).1]at e1;have e2:=qm7 M N k;rw[hM.len]at e2;rw[e1,qg4 (by omega) hj,e2]
def q3w (piv:List Nat)(j:Nat):Nat:=((List.range j).filter fun i=>!piv.contains i).length
theorem qcn (piv:List Nat):q3w piv 0=0:=rfl
theorem q6f (piv:List Nat)(j:Nat):q3w piv (j+1)=q3w piv j+if piv.contains j then 0 else 1:=by unfold q3w;rw[bD,gZ,gw];cases h:piv.contains j <;> simp at h <;> simp[h]
theorem qau (m:Nat)(piv:List Nat):q3w piv m=(q2n m piv).length:=rfl
theorem qoa {m:Nat}{piv:List Nat} : ∀ {j:Nat},j<m->j ∉ piv->(q2n m piv)[q3w piv j]? =Y j:=by
 induction m with
 |zero=>intro j hj;omega
 |succ m ih =>
  intro j hj hp;have e:q2n (m+1) piv=q2n m piv++(if piv.contains m then []else [m]):=by
   unfold q2n;rw[bD,gZ]
   congr 1
   cases h:piv.contains m <;> simp at h <;> simp[h]
  rw[e];by_cases cj:j<m
  ·rw[gU (by have:=ih cj hp;exact(gk.1 this).1)];exact ih cj hp
  ·obtain rfl:j=m:=by omega
   have hc:piv.contains j=false:=by simpa using hp
   rw[hc,qau,gQ (nlr _),Nat.sub_self];rfl
theorem qi3 (j:Nat):∀ {l:List Nat},l.Pairwise (· < ·)->(l.filter fun i=>decide (i<j+1)).length=(l.filter fun i=>decide (i<j)).length+if l.contains j then 1 else 0
 |[],_=>rfl
 |a :: l,h=>by
  obtain⟨h1,h2⟩:=gJ.1 h;have ih:=qi3 j h2;have fk:j<=a->(l.filter fun i=>decide (i<j+1))=[]/\(l.filter fun i=>decide (i<j))=[]:=fun NF =>⟨List.filter_eq_nil_iff.2 fun x hx=>by have:=h1 x hx;simp;omega,List.filter_eq_nil_iff.2 fun x hx=>by have:=h1 x hx;simp;omega⟩
  rcases Nat.lt_trichotomy a j with hl|rfl|hg
  ·rw[List.filter_cons_of_pos (by simp;omega),List.filter_cons_of_pos (by simpa using hl),gV,gV,ih];have:((a :: l).contains j)=l.contains j:=by simp[show ¬j=a by omega]
   rw[this];omega
  ·rw[List.filter_cons_of_pos (by simp),List.filter_cons_of_neg (by simp),(fk (nlr _)).1,(fk (nlr _)).2];simp
  ·rw[List.filter_cons_of_neg (by simp;omega),List.filter_cons_of_neg (by simp;omega),(fk (by omega)).1,(fk (by omega)).2];have:((a :: l).contains j)=false:=by simp[show ¬j=a by omega];intro hj;have:=h1 j hj;omega
   rw[this];rfl
theorem q9d {piv:List Nat}(hs:piv.Pairwise (· < ·)):∀j,q3w piv j+(piv.filter fun i=>decide (i<j)).length=j
 |0=>by rw[qcn];simp
 |j+1=>by rw[q6f,qi3 j hs];have:=q9d hs j;cases piv.contains j <;> simp <;> omega
theorem qi4 {m:Nat}{piv:List Nat}(hs:piv.Pairwise (· < ·))(hm:∀j∈piv,j<m):(q2n m piv).length=m-piv.length:=by have h:=q9d hs m;rw[List.filter_eq_self.2 (fun x hx=>by simpa using hm x hx),qau]at h;omega
theorem qjc {p:Int}{m:Nat}{M:List (List Int)}{i c j:Nat}(hi:i<m)(hc:(q2n m (jk p m M).2)[c]? =Y j):j6 (zm (q37 p m M) i) c=match (jk p m M).2.idxOf? i with
  |some k=>(p-j6 (zm (jk p m M).1 k) j)%p
  |none=>if i=j then 1 else 0:=by
 rw[qr8 hi];unfold j6;rw[gb,List.getElem?_map,hc];rfl
