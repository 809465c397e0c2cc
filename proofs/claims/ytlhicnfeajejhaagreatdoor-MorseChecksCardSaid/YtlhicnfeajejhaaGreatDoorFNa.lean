/- Steps towards MorseChecks. Conditions: none. -/
import Derived.Shelf.SlSortCmp.KitK
import Derived.Test.YtlhicnfeajejhaaGreatDoorFMa
set_option maxRecDepth 1000000
set_option maxHeartbeats 16000000
namespace Go.Cx
open Go.Sort
section
variable {α:Type} (key:α->Int)
def qs (l m:List α):Prop:=∀ k:Int,l.filter (fun x=>key x == k)=m.filter (fun x=>key x == k)
def Srt (l:List α):Prop:=l.Pairwise fun x y=>key x<=key y
variable {key}
theorem qs.refl (l:List α):qs key l l:=fun _=>rfl
theorem qs.symm {l m:List α} (h:qs key l m):qs key m l:=fun k=>(h k).symm
theorem qs.trans {l m n:List α} (h:qs key l m) (h':qs key m n):qs key l n:=fun k=>(h k).trans (h' k)
theorem qs.app {l l' m m':List α} (h:qs key l l') (h':qs key m m'):qs key (l++m) (l'++m'):=fun k=>by
 rw[bm,bm,h k,h' k]
theorem qs.cons (x:α) {l m:List α} (h:qs key l m):qs key (x :: l) (x :: m):=qs.app (qs.refl [x]) h
theorem qs.comm (A B:List α) (h:∀ x∈A,∀ y∈B,key x≠key y):qs key (A++B) (B++A):=fun k=>by
 rw[bm,bm];rcases Classical.em (∃ x∈A,key x=k) with ⟨x,hx,hk⟩ | dA
 ·have hB:B.filter (fun x=>key x == k)=[]:=by
   rw[List.filter_eq_nil_iff];intro y hy he;exact h x hx y hy (by rw[hk];simpa using (by simpa using he:key y=k).symm)
  rw[hB];simp
 ·have hA:A.filter (fun x=>key x == k)=[]:=by
   rw[List.filter_eq_nil_iff];intro y hy he;exact dA ⟨y,hy,by simpa using he⟩
  rw[hA];simp
theorem qs.mem {l m:List α} (h:qs key l m) (x:α):x∈l↔x∈m:=by
 have h1:=congrArg (x∈·) (h (key x));simpa using h1
theorem qs.perm {l m:List α} (h:qs key l m):l.Perm m:=by
 haveI:DecidableEq α:=fun a b=>Classical.propDecidable (a=b)
 rw[List.perm_iff_count];intro x;have h1:=congrArg (List.count x) (h (key x))
 rwa [List.count_filter (by simp),List.count_filter (by simp)] at h1
theorem qs.len {l m:List α} (h:qs key l m):l.length=m.length:=h.perm.length_eq
theorem Srt.nil:Srt key ([] : List α):=List.Pairwise.nil
theorem Srt.one (x:α):Srt key [x]:=List.pairwise_singleton _ _
theorem Srt.app {l m:List α} (h:Srt key l) (h':Srt key m) (hm:∀ x∈l,∀ y∈m,key x<=key y):Srt key (l++m):=List.pairwise_append.2 ⟨h,h',hm⟩
theorem Srt.parts {l m:List α} (h:Srt key (l++m)):Srt key l/\Srt key m/\∀ x∈l,∀ y∈m,key x<=key y:=List.pairwise_append.1 h
theorem Srt.uniq:∀ {l m:List α},Srt key l->Srt key m->qs key l m->l=m
 | [],m,_,_,h=>by
  have:=h.len;exact(gu (by simpa using this.symm)).symm
 | x :: l,[],_,_,h=>by have:=h.len;simp at this
 | x :: l,y :: m,hl,hm,h=>by
  have rP:=gx.1 hl;have qZ:=gx.1 hm;have hx:x∈y :: m:=(h.mem x).1 (by simp);have hy:y∈x :: l:=(h.mem y).2 (by simp);have h1:key y<=key x:=by
   rcases gt.1 hx with e | hx
   ·rw[e];exact Int.le_refl _
   ·exact qZ.1 x hx
  have h2:key x<=key y:=by
   rcases gt.1 hy with e | hy
   ·rw[e];exact Int.le_refl _
   ·exact rP.1 y hy
  have hk:key x=key y:=Int.le_antisymm h2 h1;have h3:=h (key x);rw[List.filter_cons_of_pos (by simp),List.filter_cons_of_pos (by simp[hk])] at h3;injection h3 with h4 h5
  subst h4;rw[Srt.uniq (l:=l) (m:=m) rP.2 qZ.2 (fun k=>by
   rcases Classical.em (key x=k) with e | e
   ·subst e;exact h5
   ·have:=h k;rw[List.filter_cons_of_neg (by simpa using e),List.filter_cons_of_neg (by simpa using e)] at this;exact this)]
theorem qs.qkb {β:Type} {eW:β->Int} (f:α->β) (hk:∀ x,eW (f x)=key x) {l m:List α} (h:qs key l m):qs eW (l.map f) (m.map f):=fun k=>by
 have:∀ n:List α,(n.map f).filter (fun x=>eW x == k)=(n.filter (fun x=>key x == k)).map f:=fun n=>by
  rw[List.filter_map];congr 1;refine List.filter_congr fun x _=>?_;simp[hk]
 rw[this,this,h k]
theorem Srt.map {β:Type} {eW:β->Int} (f:α->β) (hk:∀ x,eW (f x)=key x) {l:List α} (h:Srt key l):Srt eW (l.map f):=by
 refine List.pairwise_map.2 (h.imp fun {x y} hxy=>?_);rw[hk,hk];exact hxy
end
section
variable {α:Type} {key:α->Int}
structure Inn (key:α->Int) (S:List α) (x:α) (S1 S2:List α):Prop where
 srt:Srt key (S1++S2)
 less:∀ y∈S2,key x < key y
 stab:qs key (S++[x]) (S1++x :: S2)
theorem Inn.start {S:List α} (x:α) (h:Srt key S):Inn key S x S []:=⟨by simpa using h,fun y hy=>by simp at hy,qs.refl _⟩
theorem Inn.step {S S1 S2:List α} {x y:α} (h:Inn key S x (S1++[y]) S2) (hl:key x < key y):Inn key S x S1 (y :: S2):=by
 refine⟨by have:=h.srt;rwa [gz] at this,fun z hz=>?_,h.stab.trans ?_⟩
 ·rcases gt.1 hz with rfl | hz
  ·exact hl
  ·exact h.less z hz
 ·rw[gz];refine qs.app (qs.refl _) ?_;show qs key ([y]++[x]++S2) ([x]++[y]++S2);refine qs.app (qs.comm _ _ fun a ha b hb=>?_) (qs.refl _);simp at ha hb;subst ha hb;omega
theorem Inn.stop {S S1 S2:List α} {x y:α} (h:Inn key S x (S1++[y]) S2) (hl:¬ key x < key y):Srt key ((S1++[y])++x :: S2):=by
 obtain⟨h1,h2,h3⟩:=h.srt.parts;obtain⟨h4,h5,h6⟩:=h1.parts;refine Srt.app h1 (gx.2 ⟨fun z hz=>Int.le_of_lt (h.less z hz),h2⟩) fun a ha b hb=>?_
 have Vn:key a<=key y:=by
  rcases gF.1 ha with ha | ha
  ·exact h6 a ha y (by simp)
  ·simp at ha;rw[ha];exact Int.le_refl _
 rcases gt.1 hb with rfl | hb
 ·omega
 ·have:=h.less b hb;have:=h3 y (by simp) b hb
  omega
theorem Inn.end {S S2:List α} {x:α} (h:Inn key S x [] S2):Srt key (x :: S2) :=
 gx.2 ⟨fun z hz=>Int.le_of_lt (h.less z hz),by have:=h.srt;rwa [List.nil_append] at this⟩
theorem q2k {A0 A1 B1 B0 M1 M2:List α} (hA:Srt key (A0++A1)) (hB:Srt key (B1++B0)) (hx:∀ x∈A1,∀ y∈B1,key y < key x) (hy:∀ x∈A0,∀ y∈B0,key x<=key y)
  (h1:Srt key M1) (s1:qs key (A0++B1) M1) (h2:Srt key M2) (s2:qs key (A1++B0) M2):Srt key (M1++M2)/\qs key ((A0++A1)++(B1++B0)) (M1++M2):=by
 obtain⟨a1,a2,a3⟩:=hA.parts;obtain⟨b1,b2,b3⟩:=hB.parts;refine⟨Srt.app h1 h2 fun x eM y iC=>?_,?_⟩
 ·have rZ:=(s1.mem x).2 eM;have sh:=(s2.mem y).2 iC;rcases gF.1 rZ with q | q <;> rcases gF.1 sh with r | r
  ·exact a3 x q y r
  ·exact hy x q y r
  ·have:=hx y r x q;omega
  ·exact b3 x q y r
 ·refine qs.trans ?_ (qs.app s1 s2);rw[gz,gz];refine qs.app (qs.refl _) ?_;rw[<-gz,<-gz];exact qs.app (qs.comm _ _ fun x eM y iC=>by have:=hx x eM y iC;omega) (qs.refl _)
theorem ye {A B:List α} (hA:Srt key A) (hB:Srt key B) (h:A=[]\/B=[]):Srt key (A++B):=by
 rcases h with rfl | rfl
 ·simpa using hB
 ·simpa using hA
theorem Srt.left {l m:List α} (h:Srt key (l++m)):Srt key l:=h.parts.1
theorem Srt.right {l m:List α} (h:Srt key (l++m)):Srt key m:=h.parts.2.1
theorem qh6 {x:α} {B1 B2:List α} (hB:Srt key (B1++B2)) (h1:∀ y∈B1,key y < key x) (h2:∀ y∈B2,¬ key y < key x):Srt key (B1++x :: B2)/\qs key ([x]++(B1++B2)) (B1++x :: B2):=by
 have:=q2k (A0:=[]) (A1:=[x]) (B1:=B1) (B0:=B2) (M1:=B1) (M2:=x :: B2) (Srt.one x) hB (fun a ha y hy=>by simp at ha;subst ha;exact h1 y hy) (fun a ha=>by simp at ha) hB.left (qs.refl _) (gx.2 ⟨fun y hy=>by have:=h2 y hy;omega,hB.right⟩) (qs.refl _);simpa using this
theorem qf4 {y:α} {A1 A2:List α} (hA:Srt key (A1++A2)) (h1:∀ x∈A1,¬ key y < key x) (h2:∀ x∈A2,key y < key x):Srt key (A1++y :: A2)/\qs key ((A1++A2)++[y]) (A1++y :: A2):=by
 have:=q2k (A0:=A1) (A1:=A2) (B1:=[y]) (B0:=[]) (M1:=A1++[y]) (M2:=A2) hA (Srt.one y) (fun a ha b hb=>by simp at hb;subst hb;exact h2 a ha) (fun a _ b hb=>by simp at hb) (Srt.app hA.left (Srt.one y) (fun a ha b hb=>by simp at hb;subst hb;have:=h1 a ha;omega)) (qs.refl _) hA.right (by simpa using qs.refl A2);simpa using this
def q1o (key:α->Int) (bs:Nat) (l:List α):Prop:=∀ k,Srt key ((l.drop (k*bs)).take bs)
theorem Srt.sub {l m:List α} (h:Srt key l) (hs:m.Sublist l):Srt key m:=List.Pairwise.sublist hs h
theorem q1o.nil (bs:Nat):q1o key bs ([] : List α):=fun k=>by simp[Srt.nil]
theorem q1o.app {bs k:Nat} {P Q:List α} (hP:q1o key bs P) (hk:P.length=k*bs) (hQ:Srt key Q):q1o key bs (P++Q):=fun j=>by
 by_cases hj:j < k
 ·have h1:j*bs+bs<=k*bs:=by
   have:=bw bs (show j+1<=k from hj);rwa [Nat.add_mul,Nat.one_mul] at this
  rw[List.drop_append_of_le_length (by omega),List.take_append_of_le_length (by rw[gC];omega)];exact hP j
 ·have h1:k*bs<=j*bs:=bw bs (by omega);rw[List.drop_append,gW (by omega),List.nil_append];exact hQ.sub ((List.take_sublist _ _).trans (List.drop_sublist _ _))
theorem q1o.first {bs:Nat} {l:List α} (h:q1o key bs l):Srt key (l.take bs):=by have:=h 0;simpa using this
theorem q1o.all {bs:Nat} {l:List α} (h:q1o key bs l) (hl:l.length<=bs):Srt key l:=by
 have:=h.first;rwa [ge hl] at this
end
section
variable {α:Type} [Inhabited α]
theorem yo (d:Array α) {p q:List α} {x:α} {i:Nat} (h:d.toList=p++x :: q) (hi:p.length=i):d[i]! = x:=by
 subst hi;have hl:p.length < d.size:=by rw[<-bi,h];simp
 rw[getElem!_pos d _ hl,<-Array.getElem_toList hl];simp[h]
section
variable {key:α->Int}
omit [Inhabited α] in
theorem qdk {B:List α} (hB:Srt key B) {i j:Nat} {x y:α} (hi:B[i]? = some x) (hj:B[j]? = some y) (dS:i<=j):key x<=key y:=by
 rcases gL i j with h | h
 ·obtain⟨h1,rfl⟩:=gc.1 hi;obtain⟨h2,rfl⟩:=gc.1 hj;exact gG.1 hB i j h1 h2 h
 ·have:i=j:=by omega
  subst this;rw[hi] at hj;injection hj with hj;rw[hj];exact Int.le_refl _
theorem qdl (d:Array α) {p B q:List α} {m i:Nat} (hd:d.toList=p++(B++q)) (hp:p.length=m) (hi:i < B.length):B[i]? = some d[m+i]!:=by
 rw[g8 hi]
 congr 1
 refine(yo d (p:=p++B.take i) (q:=B.drop (i+1)++q) ?_ (by simp;omega)).symm;rw[hd,gz,<-gV,<-be hi,<-gz (B.take i),gr]
theorem qdm (d:Array α) {p B q:List α} {m:Nat} (hd:d.toList=p++(B++q)) (hp:p.length=m) (hB:Srt key B) (t:Nat) (h0:m<=t) (h1:t<=m+B.length) (c:Int) (h:t=m\/key d[t - 1]!<=c):∀ y∈B.take (t - m),key y<=c:=by
 intro y hy;obtain⟨i,hi⟩:=gY hy;rw[List.getElem?_take] at hi;split at hi
 ·next hlt =>
  rcases h with h | h
  ·omega
  ·have e:=qdl d hd hp (i:=t - 1 - m) (by omega);rw[show m+(t - 1 - m)=t - 1 by omega] at e;exact Int.le_trans (qdk hB hi e (by omega)) h
 ·cases hi
theorem qdn (d:Array α) {p B q:List α} {m:Nat} (hd:d.toList=p++(B++q)) (hp:p.length=m) (hB:Srt key B) (t:Nat) (h0:m<=t) (c:Int) (h:t=m+B.length\/c<=key d[t]!):∀ y∈B.drop (t - m),c<=key y:=by
 intro y hy;obtain⟨i,hi⟩:=gY hy;rw[List.getElem?_drop] at hi;have hl:=(gc.1 hi).1;rcases h with h | h
 ·omega
 ·have e:=qdl d hd hp (i:=t - m) (by omega);rw[show m+(t - m)=t by omega] at e;exact Int.le_trans h (qdk hB e hi (by omega))
theorem q7m (d:Array α) {p A B q:List α} {a m b:Nat} (hd:d.toList=p++(A++(B++q))) (hp:p.length=a) (hm:a+A.length=m) (hb:m+B.length=b) (hA:Srt key A) (hB:Srt key B) (st en pp:Nat) (h0:a<=st) (h1:st<=m) (h2:m<=en) (h3:en<=b) (iD:pp+1=st+en)
  (k1:(en=b\/st=a)\/¬ key d[pp - (st - 1)]! < key d[st - 1]!) (k2:(st=m\/en=m)\/key d[pp - st]! < key d[st]!) :
  (∀ x∈A.drop (st - a),∀ y∈B.take (en - m),key y < key x)/\(∀ x∈A.take (st - a),∀ y∈B.drop (en - m),key x<=key y):=by
 have bQ:d.toList=(p++A)++(B++q):=by rw[hd,gz]
 have oS:(p++A).length=m:=by simp;omega
 constructor
 ·intro x hx y hy;rcases k2 with (k | k) | k
  ·rw[gW (by omega)] at hx;simp at hx
  ·rw[show en - m=0 by omega] at hy;simp at hy
  ·have aS:st < m:=by
    rcases gL st m with h | h
    ·exact h
    ·rw[gW (by omega)] at hx;simp at hx
   have kM:m < en:=by
    rcases gL m en with h | h
    ·exact h
    ·rw[show en - m=0 by omega] at hy;simp at hy
   have e1:=qdn d hd hp hA st h0 _ (.inr (Int.le_refl _)) x hx;have e2:=qdm d bQ oS hB en h2 (by omega) _ (.inr (Int.le_refl _)) y hy;rw[show pp - st=en - 1 by omega] at k;omega
 ·intro x hx y hy;rcases k1 with (k | k) | k
  ·rw[gW (by omega)] at hy;simp at hy
  ·rw[show st - a=0 by omega] at hx;simp at hx
  ·have aS:a < st:=by
    rcases gL a st with h | h
    ·exact h
    ·rw[show st - a=0 by omega] at hx;simp at hx
   have kM:en < b:=by
    rcases gL en b with h | h
    ·exact h
    ·rw[gW (by omega)] at hy;simp at hy
   have e1:=qdm d hd hp hA st h0 (by omega) _ (.inr (Int.le_refl _)) x hx;have e2:=qdn d bQ oS hB en h2 _ (.inr (Int.le_refl _)) y hy;rw[show pp - (st - 1)=en by omega] at k;omega
end
theorem qdo (d:Array α) {p m q:List α} {x y:α} {i j:Nat} (h:d.toList=p++x :: (m++y :: q)) (hi:p.length=i) (hj:p.length+1+m.length=j):(swp d i j).toList=p++y :: (m++x :: q):=by
 have ow:=yo d h hi;have mi:d[j]! = y:=yo d (p:=p++x :: m) (q:=q) (by rw[h];simp) (by simp;omega);unfold swp;rw[ow,mi];subst hi hj;rw[Array.toList_setIfInBounds,Array.toList_setIfInBounds,h];rw[List.set_append_right _ _ (nlr _)];simp only [Nat.sub_self,List.set_cons_zero];rw[List.set_append_right _ _ (by omega)];rw[show p.length+1+m.length - p.length=m.length+1 by omega,List.set_cons_succ,List.set_append_right _ _ (nlr _)];simp
theorem qkc (d:Array α) {p q:List α} {x y:α} {i j:Nat} (h:d.toList=p++x :: y :: q) (hi:p.length=i) (hj:p.length+1=j):(swp d i j).toList=p++y :: x :: q:=qdo d (m:=[]) h hi (by simpa using hj)
theorem arr_swp' (d:Array α) {p m q:List α} {x y:α} {i j:Nat} (h:d.toList=p++x :: (m++y :: q)) (hi:p.length=i) (hj:p.length+1+m.length=j):(swp d j i).toList=p++y :: (m++x :: q):=by
 have ow:=yo d h hi;have mi:d[j]! = y:=yo d (p:=p++x :: m) (q:=q) (by rw[h];simp) (by simp;omega);unfold swp;rw[ow,mi];subst hi hj;rw[Array.toList_setIfInBounds,Array.toList_setIfInBounds,h];rw[List.set_append_right _ _ (by omega)];rw[show p.length+1+m.length - p.length=m.length+1 by omega,List.set_cons_succ,List.set_append_right _ _ (nlr _)];rw[List.set_append_right _ _ (nlr _)];simp
theorem arr_adj' (d:Array α) {p q:List α} {x y:α} {i j:Nat} (h:d.toList=p++x :: y :: q) (hi:p.length=i) (hj:p.length+1=j):(swp d j i).toList=p++y :: x :: q:=arr_swp' d (m:=[]) h hi (by simpa using hj)
def q8q (i:Nat) (p X M Y q:List α):List α:=p++((Y.take i++X.drop i)++(M++((X.take i++Y.drop i)++q)))
omit [Inhabited α] in
theorem qf5 (p X M Y q:List α):q8q 0 p X M Y q=p++(X++(M++(Y++q))):=by simp[q8q]
omit [Inhabited α] in
theorem qh7 (p X M Y q:List α) {n:Nat} (hX:X.length=n) (hY:Y.length=n):q8q n p X M Y q=p++(Y++(M++(X++q))):=by
 unfold q8q;rw[ge (by omega),ge (by omega),gW (by omega),gW (by omega),gQ,gQ]
theorem qf6 (d:Array α) {p X M Y q:List α} {n i a b:Nat} (hX:X.length=n) (hY:Y.length=n) (hi:i < n) (ha:p.length=a) (hb:p.length+n+M.length=b) (h:d.toList=q8q i p X M Y q):(swp d (a+i) (b+i)).toList=q8q (i+1) p X M Y q:=by
 unfold q8q at h ⊢;have eX:X.drop i=X[i]'(by omega) :: X.drop (i+1):=be (by omega);have eY:Y.drop i=Y[i]'(by omega) :: Y.drop (i+1):=be (by omega);have tX:X.take (i+1)=X.take i++[X[i]'(by omega)]:=List.take_succ_eq_append_getElem (by omega);have tY:Y.take (i+1)=Y.take i++[Y[i]'(by omega)]:=List.take_succ_eq_append_getElem (by omega);have:=qdo d (p:=p++Y.take i) (m:=X.drop (i+1)++(M++X.take i)) (q:=Y.drop (i+1)++q) (x:=X[i]'(by omega)) (y:=Y[i]'(by omega)) (i:=a+i) (j:=b+i) (by rw[h,eX,eY];simp only [List.append_assoc,List.cons_append]) (by simp;omega) (by simp;omega);rw[this,tX,tY];simp only [List.append_assoc,List.cons_append,List.nil_append]
end
end Go.Cx
namespace Go.Cx
open Go.RowKit Go.Sort Go.Proofs
def cat {α:Type} (enc:α->List Value) (l:List α):List Value:=l.flatMap enc
structure Sd where
 c:Int
 g:Int
instance:Inhabited Sd:=⟨⟨0,0⟩⟩
def Sd.enc (x:Sd):List Value:=[.int .i64 x.c,.int .i64 x.g]
structure Ce where
 id:Int
 dim:Int
 a:Option Addr
 n:Nat
 c:Nat
 s:List Sd
instance:Inhabited Ce:=⟨⟨0,0,none,0,0,[]⟩⟩
def Ce.enc (x:Ce):List Value:=[.int .i64 x.id,.int .i64 x.dim,.slice x.a x.n x.c]
def Ce.sl (x:Ce):Value:=.slice x.a x.n x.c
structure Cl where
 id:Int
 dim:Int
 s:List Sd
def Ce.cl (x:Ce):Cl:=⟨x.id,x.dim,x.s⟩
def SlC (w:World) (v:Value) (l:List Ce):Prop:=Sl w 3 v (cat Ce.enc l)/\∀ x∈l,Sl w 2 x.sl (cat Sd.enc x.s)
theorem Ce.qp (x:Ce):x.enc.length=3:=rfl
theorem Sd.qp (x:Sd):x.enc.length=2:=rfl
theorem Ce.xu (x:Ce):∀ v∈x.enc,v.oneCell'=true:=by
 intro v hv;simp[Ce.enc] at hv;rcases hv with rfl | rfl | rfl <;> rfl
theorem Sd.xu (x:Sd):∀ v∈x.enc,v.oneCell'=true:=by
 intro v hv;simp[Sd.enc] at hv;rcases hv with rfl | rfl <;> rfl
section
variable {α:Type} {enc:α->List Value} {k:Nat}
theorem q22 (x:α) (l:List α):cat enc (x :: l)=enc x++cat enc l:=rfl
theorem x9 (l m:List α):cat enc (l++m)=cat enc l++cat enc m:=by simp[cat]
theorem q1c (x:α):cat enc [x]=enc x:=by simp[cat]
theorem qt (hk:∀ x,(enc x).length=k) (l:List α):(cat enc l).length=l.length*k:=by
 induction l with
 | nil=>simp[cat]
 | cons x l ih=>rw[q22,gl,ih,hk,gD,Nat.add_mul,Nat.one_mul,Nat.add_comm]
theorem q2l (hk:∀ x,(enc x).length=k) (l:List α) (i j:Nat) (x:α) (h:l[i]? = some x) (hj:j < k):(cat enc l)[i*k+j]? = (enc x)[j]?:=by
 induction l generalizing i with
 | nil=>simp at h
 | cons y l ih =>
  rw[q22];cases i with
  | zero=>simp at h;subst h;rw[Nat.zero_mul,Nat.zero_add,br (by rw[hk];exact hj)]
  | succ i =>
   rw[gO (by rw[hk,Nat.add_mul,Nat.one_mul];omega),hk,show (i+1)*k+j - k=i*k+j by rw[Nat.add_mul,Nat.one_mul];omega];exact ih i (by simpa using h)
theorem zo (h1:∀ x,∀ v∈enc x,v.oneCell'=true) (l:List α):∀ v∈cat enc l,v.oneCell'=true:=by
 intro v hv;obtain⟨x,_,hx⟩:=List.mem_flatMap.1 hv;exact h1 x v hx
variable [Inhabited α]
theorem q7n (hk:∀ x,(enc x).length=k) (l:List α):flatK enc k l.toArray=(cat enc l).toArray:=by
 refine ext_get! (by simp[qt hk]) fun t ht=>?_
 have re:t < l.toArray.size*k:=by simpa using ht
 rw[get_flatK _ _ _ _ re];have dr:0 < k:=by
  rcases Nat.eq_zero_or_pos k with h | h
  ·subst h;simp at re
  ·exact h
 have hi:t / k < l.length:=by
  have:l.toArray.size=l.length:=by simp
  rw[this,Nat.mul_comm] at re;exact Nat.div_lt_of_lt_mul re
 have hm:t % k < k:=Nat.mod_lt _ dr;have hx:l[t / k]? = some l.toArray[t / k]!:=by
  rw[getElem!_pos l.toArray (t / k) (by simpa using hi)];simp[hi]
 have:=q2l hk l (t / k) (t % k) _ hx hm;rw[Nat.mul_comm,Nat.div_add_mod] at this;have e1:(enc l.toArray[t / k]!)[t % k]? = some (enc l.toArray[t / k]!)[t % k]!:=by
  have hl:t % k < (enc l.toArray[t / k]!).length:=by rw[hk];exact hm
  rw[g8 hl,getElem!_pos (enc l.toArray[t / k]!) (t % k) hl]
 rw[e1] at this;have hc:t < (cat enc l).length:=by rw[qt hk];simpa using re
 rw[getElem!_pos ((cat enc l).toArray) t (by simpa using hc)];rw[g8 hc] at this;simpa using (osi this).symm
theorem q32 {w:World} {base e g n cap:Nat} {l:List α} (hk:∀ x,(enc x).length=k) (h:w.ownsRow base e k (.slice (some ⟨g,0,none⟩) n cap) n (cat enc l)):HoldsK enc k w g 0 l.toArray:=by
 intro j hj;rw[q7n hk] at hj ⊢;have mi:j < (cat enc l).length:=by simpa using hj
 have h1:=h.cells (g:=g) rfl j ((cat enc l)[j]'mi) (g8 mi);rw[Addr.add_lit] at h1;refine⟨?_,?_⟩
 ·rw[h1,getElem!_pos ((cat enc l).toArray) j hj];simp
 ·rcases h.2 with ⟨h0,_⟩ | ⟨g',bE,cur,hv,hg,hb,_⟩
  ·cases h0
  ·cases hv
   exact jz hb _
omit [Inhabited α] in
theorem qa8 {w:World} {g n:Nat} {os:Array Obj} (F:Array Value):w.grownBy (grow (putRow id (Sort.ahead w n) g 0 F) os) (some g):=by
 refine⟨rfl,rfl,rfl,by simp,fun k hk ak=>?_⟩;rw[heap_grow_old _ _ (by simpa using hk)];have:g≠k:=fun e=>ak (by rw[e])
 simp[putRow,mapBlock,Sort.ahead,Array.getElem?_modify,this]
theorem q61 {w W:World} {base e g n cap:Nat} {l:List α} {d:Array α} (hk:∀ x,(enc x).length=k) (h:w.ownsRow base e k (.slice (some ⟨g,0,none⟩) n cap) n (cat enc l)) (hn:d.size=n) (S:SWK enc k w g 0 d W) :
  W.ownsRow base e k (.slice (some ⟨g,0,none⟩) n cap) n (cat enc d.toList)/\w.grownBy W (some g):=by
 obtain⟨m,os,rfl⟩:=S;rcases h.2 with ⟨h0,_⟩ | ⟨g',bE,cur,hv,hg,hb,h1,h2,h3,h4⟩
 ·cases h0
 ·cases hv
  have hF:flatK enc k d=(cat enc d.toList).toArray:=by
   have:=q7n hk d.toList;simpa using this
  refine⟨⟨by rw[qt hk,bi,hn],.inr ⟨g,cap,putCells id 0 (flatK enc k d) cur,rfl,hg,?_,h1,h2,by simp[putCells,h3],?_⟩⟩,qa8 _⟩
  ·have lf:g < w.heap.size:=(gw.1 hb).1;show (grow (putRow id (Sort.ahead w m) g 0 (flatK enc k d)) os).heap[g]? = _;rw[heap_grow_old _ _ (by simpa using lf)];simp[putRow,mapBlock,Sort.ahead,Array.getElem?_modify,hb,onCells]
  ·rw[hF];have na:(cat enc d.toList).length=n*k:=by rw[qt hk,bi,hn]
   have fN:n*k<=cur.size:=by rw[h3];exact bw _ h1
   apply List.ext_getElem?;intro j;by_cases hj:j < n*k
   ·rw[List.getElem?_take_of_lt hj,Array.getElem?_toList];simp[putCells,na,hj,show j < cur.size by omega]
   ·rw[List.getElem?_take_eq_none (by omega),List.getElem?_eq_none (by omega)]
end
end Go.Cx
namespace Go.Cx
open Go.RowKit
section
variable {α:Type} (key:α->Int)
def ins (x:α):List α->List α
 | []=>[x]
 | y :: l=>if key x<=key y then x :: y :: l else y :: ins x l
def stb:List α->List α
 | []=>[]
 | x :: l=>ins key x (stb l)
variable {key}
theorem qa9 (x:α) (l:List α):qs key (x :: l) (ins key x l):=by
 induction l with
 | nil=>exact qs.refl _
 | cons y l ih =>
  unfold ins;split
  ·exact qs.refl _
  ·next h =>
   refine qs.trans ?_ (qs.cons y ih);show qs key ([x]++[y]++l) ([y]++[x]++l);refine qs.app (qs.comm _ _ fun a ha b hb=>?_) (qs.refl _);simp at ha hb;subst ha hb;omega
theorem qkd (x:α) (l:List α) (h:Srt key l):Srt key (ins key x l):=by
 induction l with
 | nil=>exact Srt.one x
 | cons y l ih =>
  have h':=gx.1 h;unfold ins;split
  ·next hxy =>
   refine gx.2 ⟨fun z hz=>?_,h⟩;rcases gt.1 hz with rfl | hz
   ·exact hxy
   ·have:=h'.1 z hz;omega
  ·next hxy =>
   refine gx.2 ⟨fun z hz=>?_,ih h'.2⟩;rcases gt.1 (((qa9 x l).mem z).2 hz) with rfl | hz
   ·omega
   ·exact h'.1 z hz
theorem q3t (l:List α):qs key l (stb key l):=by
 induction l with
 | nil=>exact qs.refl _
 | cons x l ih=>exact(qs.cons x ih).trans (qa9 x _)
theorem q8r (l:List α):Srt key (stb key l):=by
 induction l with
 | nil=>exact Srt.nil
 | cons x l ih=>exact qkd x _ ih
theorem q8s {l m:List α} (h:qs key l m) (hs:Srt key m):m=stb key l:=Srt.uniq hs (q8r l) (h.symm.trans (q3t l))
theorem qdp (l:List α):(stb key l).length=l.length:=(q3t l).len.symm
theorem q2m (l:List α) (x:α):x∈stb key l↔x∈l:=((q3t l).mem x).symm
theorem qh8 {l:List α} (h:Srt key l):stb key l=l:=(q8s (qs.refl l) h).symm
theorem qke {β:Type} {eW:β->Int} (f:α->β) (hk:∀ x,eW (f x)=key x) (l:List α):stb eW (l.map f)=(stb key l).map f :=
 (q8s ((q3t l).qkb f hk) ((q8r l).map f hk)).symm
end
def Cl.canon (X:Cl):Cl:=⟨X.id,X.dim,stb Sd.c X.s⟩
def canon (L:List Cl):List Cl:=(stb Cl.id L).map Cl.canon
theorem q0z (L:List Cl):(canon L).length=L.length:=by simp[canon,qdp]
def xb {α:Type} (key:α->Int):List α->List α
 | []=>[]
 | X :: L=>X :: (xb key L).filter (fun Y=>key Y != key X)
section
variable {α:Type} {key:α->Int}
theorem q75 {L:List α} (c:Int):(∃ X∈xb key L,key X=c)↔∃ X∈L,key X=c:=by
 induction L with
 | nil=>simp[xb]
 | cons X L ih =>
  simp only [xb,List.mem_cons,List.mem_filter];constructor
  ·rintro ⟨Y,rfl | ⟨hY,ak⟩,rfl⟩
   ·exact⟨Y,.inl rfl,rfl⟩
   ·obtain⟨Z,hZ,he⟩:=ih.1 ⟨Y,hY,rfl⟩;exact⟨Z,.inr hZ,he⟩
  ·rintro ⟨Y,rfl | hY,rfl⟩
   ·exact⟨Y,.inl rfl,rfl⟩
   ·rcases Classical.em (key Y=key X) with h | h
    ·exact⟨X,.inl rfl,h.symm⟩
    ·obtain⟨Z,hZ,he⟩:=ih.2 ⟨Y,hY,rfl⟩;exact⟨Z,.inr ⟨hZ,by simpa [he] using h⟩,he⟩
theorem q62 (L:List α):(xb key L).Sublist L:=by
 induction L with
 | nil=>exact List.Sublist.refl _
 | cons X L ih=>exact(List.filter_sublist.trans ih).cons_cons X
theorem q3c (L:List α):(xb key L).length<=L.length:=(q62 L).length_le
theorem qby {L:List α} {X:α} (h:X∈xb key L):X∈L:=(q62 L).mem h
theorem q4z (L:List α) (X:α) (h:∃ Y∈L,key Y=key X):xb key (L++[X])=xb key L:=by
 induction L with
 | nil=>obtain⟨Y,hY,_⟩:=h;simp at hY
 | cons Z L ih =>
  rw[gV];simp only [xb];by_cases h1:∃ Y∈L,key Y=key X
  ·rw[ih h1]
  ·have hz:key Z=key X:=by
    obtain⟨Y,hY,he⟩:=h;rcases gt.1 hY with rfl | hY
    ·exact he
    ·exact absurd ⟨Y,hY,he⟩ h1
   congr 1
   have:∀ M:List α,(∀ Y∈M,key Y≠key X)->xb key (M++[X])=xb key M++[X]:=by
    intro M;induction M with
    | nil=>intro _;simp[xb]
    | cons W M pf =>
     intro hM;rw[gV];simp only [xb];rw[pf (fun Y hY=>hM Y (by simp[hY])),bm];have hw:(key X != key W)=true:=by simpa using fun e:key X=key W=>hM W (by simp) e.symm
     simp[hw]
   rw[this L (fun Y hY e=>h1 ⟨Y,hY,e⟩),bm];simp[hz]
theorem q50 (L:List α) (X:α) (h:¬ ∃ Y∈L,key Y=key X):xb key (L++[X])=xb key L++[X]:=by
 induction L with
 | nil=>simp[xb]
 | cons W M pf =>
  rw[gV];simp only [xb];rw[pf (fun ⟨Y,hY,e⟩=>h ⟨Y,by simp[hY],e⟩),bm];have hw:(key X != key W)=true:=by simpa using fun e:key X=key W=>h ⟨W,by simp,e.symm⟩
  simp[hw]
theorem q63 {β:Type} {eW:β->Int} (f:α->β) (hk:∀ x,eW (f x)=key x) (L:List α):xb eW (L.map f)=(xb key L).map f:=by
 induction L with
 | nil=>rfl
 | cons X L ih =>
  simp only [List.map_cons,xb,ih,List.filter_map]
  congr 2
  refine List.filter_congr fun Y _=>?_
  simp[hk]
theorem q4n (L:List α) (X:α) (h:X∈xb key L):L.find? (fun Y=>key Y == key X)=some X:=by
 induction L with
 | nil=>simp[xb] at h
 | cons Z L ih =>
  simp only [xb] at h;rcases gt.1 h with rfl | h
  ·simp
  ·obtain⟨h1,h2⟩:=gH.1 h;have h3:(key Z == key X)=false:=by simpa using fun e:key Z=key X=>by simp[e] at h2
   rw[List.find?_cons,h3];exact ih h1
end
def cellsOf (L:List Cl):List Cl:=xb Cl.id (canon L)
def q04 (L:List Cl) (dim:Int):List Int:=((cellsOf L).filter (fun X=>X.dim == dim)).map Cl.id
end Go.Cx
