/- Steps towards SequenceChecks. Conditions: none. -/
import Derived.Shelf.SlSortCmp.KitK
import Derived.Test.YtmkpbhaoalbhjaaGreatDoorXMa
set_option maxRecDepth 1000000
set_option maxHeartbeats 0
open Go.Value renaming slice→O
open Option renaming none→Z,some→Y
open Go renaming World→δ,Value→ε
namespace Go.Cx
open Go.Sort
section
variable {α:Type}(key:α->Int)
def qs (l m:List α):Prop:=∀k:Int,l.filter (fun x=>key x == k)=m.filter (fun x=>key x == k)
def Srt (l:List α):Prop:=l.Pairwise fun x y=>key x<=key y
variable {key}
theorem qs.refl (l:List α):qs key l l:=fun _=>rfl
theorem qs.symm {l m:List α}(h:qs key l m):qs key m l:=fun k=>(h k).symm
theorem qs.trans {l m n:List α}(h:qs key l m)(h':qs key m n):qs key l n:=fun k=>(h k).trans (h' k)
theorem qs.app {l l' m m':List α}(h:qs key l l')(h':qs key m m'):qs key (l++m) (l'++m'):=fun k=>by rw[gZ,gZ,h k,h' k]
theorem qs.cons (x:α){l m:List α}(h:qs key l m):qs key (x :: l) (x :: m):=qs.app (qs.refl [x]) h
theorem qs.comm (A B:List α)(h:∀x∈A,∀y∈B,key x≠key y):qs key (A++B) (B++A):=fun k=>by
 rw[gZ,gZ];rcases Classical.em (∃x∈A,key x=k)with ⟨x,hx,hk⟩|fk
 ·have hB:B.filter (fun x=>key x == k)=[]:=by rw[List.filter_eq_nil_iff];intro y hy he;exact h x hx y hy (by rw[hk];simpa using (by simpa using he:key y=k).symm)
  rw[hB];simp
 ·have hA:A.filter (fun x=>key x == k)=[]:=by rw[List.filter_eq_nil_iff];intro y hy he;exact fk ⟨y,hy,by simpa using he⟩
  rw[hA];simp
theorem qs.mem {l m:List α}(h:qs key l m)(x:α):x∈l↔x∈m:=by have h1:=congrArg (x∈·) (h (key x));simpa using h1
theorem qs.perm {l m:List α}(h:qs key l m):l.Perm m:=by
 haveI:DecidableEq α:=fun a b=>Classical.propDecidable (a=b)
 rw[List.perm_iff_count];intro x;have h1:=congrArg (List.count x) (h (key x))
 rwa [List.count_filter (by simp),List.count_filter (by simp)]at h1
theorem qs.len {l m:List α}(h:qs key l m):l.length=m.length:=h.perm.length_eq
theorem Srt.nil:Srt key ([] : List α):=List.Pairwise.nil
theorem Srt.one (x:α):Srt key [x]:=List.pairwise_singleton _ _
theorem Srt.app {l m:List α}(h:Srt key l)(h':Srt key m)(hm:∀x∈l,∀y∈m,key x<=key y):Srt key (l++m):=List.pairwise_append.2 ⟨h,h',hm⟩
theorem Srt.parts {l m:List α}(h:Srt key (l++m)):Srt key l/\Srt key m/\∀x∈l,∀y∈m,key x<=key y:=List.pairwise_append.1 h
theorem Srt.uniq:∀ {l m:List α},Srt key l->Srt key m->qs key l m->l=m
 |[],m,_,_,h=>by have:=h.len;exact(gl (by simpa using this.symm)).symm
 |x :: l,[],_,_,h=>by have:=h.len;simp at this
 |x :: l,y :: m,hl,hm,h=>by
  have nc:=gJ.1 hl;have tl:=gJ.1 hm;have hx:x∈y :: m:=(h.mem x).1 (by simp);have hy:y∈x :: l:=(h.mem y).2 (by simp);have h1:key y<=key x:=by
   rcases gH.1 hx with e|hx
   ·rw[e];exact Int.le_refl _
   ·exact tl.1 x hx
  have h2:key x<=key y:=by
   rcases gH.1 hy with e|hy
   ·rw[e];exact Int.le_refl _
   ·exact nc.1 y hy
  have hk:key x=key y:=Int.le_antisymm h2 h1;have h3:=h (key x);rw[List.filter_cons_of_pos (by simp),List.filter_cons_of_pos (by simp[hk])]at h3;injection h3 with h4 h5
  subst h4;rw[Srt.uniq (l:=l) (m:=m) nc.2 tl.2 (fun k=>by
   rcases Classical.em (key x=k)with e|e
   ·subst e;exact h5
   ·have:=h k;rw[List.filter_cons_of_neg (by simpa using e),List.filter_cons_of_neg (by simpa using e)]at this;exact this)]
theorem qs.qkb {β:Type}{key':β->Int}(f:α->β)(hk:∀x,key' (f x)=key x){l m:List α}(h:qs key l m):qs key' (l.map f) (m.map f):=fun k=>by
 have:∀n:List α,(n.map f).filter (fun x=>key' x == k)=(n.filter (fun x=>key x == k)).map f:=fun n=>by rw[List.filter_map];congr 1;refine List.filter_congr fun x _=>?_;simp[hk]
 rw[this,this,h k]
theorem Srt.map {β:Type}{key':β->Int}(f:α->β)(hk:∀x,key' (f x)=key x){l:List α}(h:Srt key l):Srt key' (l.map f):=by refine List.pairwise_map.2 (h.imp fun {x y} hxy=>?_);rw[hk,hk];exact hxy
end
section
variable {α:Type}{key:α->Int}
structure Inn (key:α->Int)(S:List α)(x:α)(S1 S2:List α):Prop where
 srt:Srt key (S1++S2)
 less:∀y∈S2,key x<key y
 stab:qs key (S++[x]) (S1++x :: S2)
theorem Inn.start {S:List α}(x:α)(h:Srt key S):Inn key S x S []:=⟨by simpa using h,fun y hy=>by simp at hy,qs.refl _⟩
theorem Inn.step {S S1 S2:List α}{x y:α}(h:Inn key S x (S1++[y]) S2)(hl:key x<key y):Inn key S x S1 (y :: S2):=by
 refine⟨by have:=h.srt;rwa [bj]at this,fun z hz=>?_,h.stab.trans ?_⟩
 ·rcases gH.1 hz with rfl|hz
  ·exact hl
  ·exact h.less z hz
 ·rw[bj];refine qs.app (qs.refl _) ?_;show qs key ([y]++[x]++S2) ([x]++[y]++S2);refine qs.app (qs.comm _ _ fun a ha b hb=>?_) (qs.refl _);simp at ha hb;subst ha hb;omega
theorem Inn.stop {S S1 S2:List α}{x y:α}(h:Inn key S x (S1++[y]) S2)(hl:¬key x<key y):Srt key ((S1++[y])++x :: S2):=by
 obtain⟨h1,h2,h3⟩:=h.srt.parts;obtain⟨h4,h5,h6⟩:=h1.parts;refine Srt.app h1 (gJ.2 ⟨fun z hz=>Int.le_of_lt (h.less z hz),h2⟩) fun a ha b hb=>?_
 have WZ:key a<=key y:=by
  rcases gO.1 ha with ha|ha
  ·exact h6 a ha y (by simp)
  ·simp at ha;rw[ha];exact Int.le_refl _
 rcases gH.1 hb with rfl|hb
 ·omega
 ·have:=h.less b hb;have:=h3 y (by simp) b hb
  omega
theorem Inn.end {S S2:List α}{x:α}(h:Inn key S x [] S2):Srt key (x :: S2) :=
 gJ.2 ⟨fun z hz=>Int.le_of_lt (h.less z hz),by have:=h.srt;rwa [List.nil_append]at this⟩
def q1o (key:α->Int)(bs:Nat)(l:List α):Prop:=∀k,Srt key ((l.drop (k*bs)).take bs)
theorem q1o.first {bs:Nat}{l:List α}(h:q1o key bs l):Srt key (l.take bs):=by have:=h 0;simpa using this
theorem q1o.all {bs:Nat}{l:List α}(h:q1o key bs l)(hl:l.length<=bs):Srt key l:=by have:=h.first;rwa [gr hl]at this
end
section
variable {α:Type}[Inhabited α]
theorem yo (d:Array α){p q:List α}{x:α}{i:Nat}(h:d.toList=p++x :: q)(hi:p.length=i):d[i]! =x:=by
 subst hi;have hl:p.length<d.size:=by rw[<-bo,h];simp
 rw[getElem!_pos d _ hl,<-Array.getElem_toList hl];simp[h]
section
variable {key:α->Int}
end
theorem qdo (d:Array α){p m q:List α}{x y:α}{i j:Nat}(h:d.toList=p++x :: (m++y :: q))(hi:p.length=i)(hj:p.length+1+m.length=j):(swp d i j).toList=p++y :: (m++x :: q):=by have pY:=yo d h hi;have uv:d[j]! =y:=yo d (p:=p++x :: m) (q:=q) (by rw[h];simp) (by simp;omega);unfold swp;rw[pY,uv];subst hi hj;rw[Array.toList_setIfInBounds,Array.toList_setIfInBounds,h];rw[List.set_append_right _ _ (nlr _)];simp only [Nat.sub_self,List.set_cons_zero];rw[List.set_append_right _ _ (by omega)];rw[show p.length+1+m.length-p.length=m.length+1 by omega,List.set_cons_succ,List.set_append_right _ _ (nlr _)];simp
theorem arr_swp' (d:Array α){p m q:List α}{x y:α}{i j:Nat}(h:d.toList=p++x :: (m++y :: q))(hi:p.length=i)(hj:p.length+1+m.length=j):(swp d j i).toList=p++y :: (m++x :: q):=by have pY:=yo d h hi;have uv:d[j]! =y:=yo d (p:=p++x :: m) (q:=q) (by rw[h];simp) (by simp;omega);unfold swp;rw[pY,uv];subst hi hj;rw[Array.toList_setIfInBounds,Array.toList_setIfInBounds,h];rw[List.set_append_right _ _ (by omega)];rw[show p.length+1+m.length-p.length=m.length+1 by omega,List.set_cons_succ,List.set_append_right _ _ (nlr _)];rw[List.set_append_right _ _ (nlr _)];simp
theorem arr_adj' (d:Array α){p q:List α}{x y:α}{i j:Nat}(h:d.toList=p++x :: y :: q)(hi:p.length=i)(hj:p.length+1=j):(swp d j i).toList=p++y :: x :: q:=arr_swp' d (m:=[]) h hi (by simpa using hj)
end
end Go.Cx
namespace Go.Cx
open Go.RowKit Go.Sort Go.Proofs
def cat {α:Type}(enc:α->List ε)(l:List α):List Value:=l.flatMap enc
structure Sd where
 c:Int
 g:Int
instance:Inhabited Sd:=⟨⟨0,0⟩⟩
def Sd.enc (x:Sd):List Value:=[x.c,x.g]
structure Ce where
 id:Int
 dim:Int
 a:Option Addr
 n:Nat
 c:Nat
 s:List Sd
instance:Inhabited Ce:=⟨⟨0,0,Z,0,0,[]⟩⟩
def Ce.enc (x:Ce):List Value:=[x.id,x.dim,O x.a x.n x.c]
def Ce.sl (x:Ce):Value:=O x.a x.n x.c
structure Cl where
 id:Int
 dim:Int
 s:List Sd
def Ce.cl (x:Ce):Cl:=⟨x.id,x.dim,x.s⟩
def SlC (w:δ)(v:ε)(l:List Ce):Prop:=Sl w 3 v (cat Ce.enc l)/\∀x∈l,Sl w 2 x.sl (cat Sd.enc x.s)
theorem Ce.qp (x:Ce):x.enc.length=3:=rfl
theorem Sd.qp (x:Sd):x.enc.length=2:=rfl
theorem Ce.xu (x:Ce):∀v∈x.enc,v.oneCell'=true:=by intro v hv;simp[Ce.enc]at hv;rcases hv with rfl|rfl|rfl <;> rfl
theorem Sd.xu (x:Sd):∀v∈x.enc,v.oneCell'=true:=by intro v hv;simp[Sd.enc]at hv;rcases hv with rfl|rfl <;> rfl
section
variable {α:Type}{enc:α->List ε}{k:Nat}
theorem q22 (x:α)(l:List α):cat enc (x :: l)=enc x++cat enc l:=rfl
theorem q2e (l m:List α):cat enc (l++m)=cat enc l++cat enc m:=by simp[cat]
theorem q99 (x:α):cat enc [x]=enc x:=by simp[cat]
theorem qt (hk:∀x,(enc x).length=k)(l:List α):(cat enc l).length=l.length*k:=by
 induction l with
 |nil=>simp[cat]
 |cons x l ih=>rw[q22,gw,ih,hk,gV,Nat.add_mul,Nat.one_mul,Nat.add_comm]
theorem q2l (hk:∀x,(enc x).length=k)(l:List α)(i j:Nat)(x:α)(h:l[i]? =Y x)(hj:j<k):(cat enc l)[i*k+j]? =(enc x)[j]?:=by
 induction l generalizing i with
 |nil=>simp at h
 |cons y l ih =>
  rw[q22];cases i with
  |zero=>simp at h;subst h;rw[Nat.zero_mul,Nat.zero_add,gU (by rw[hk];exact hj)]
  |succ i =>rw[gQ (by rw[hk,Nat.add_mul,Nat.one_mul];omega),hk,show (i+1)*k+j-k=i*k+j by rw[Nat.add_mul,Nat.one_mul];omega];exact ih i (by simpa using h)
theorem zo (h1:∀x,∀v∈enc x,v.oneCell'=true)(l:List α):∀v∈cat enc l,v.oneCell'=true:=by intro v hv;obtain⟨x,_,hx⟩:=List.mem_flatMap.1 hv;exact h1 x v hx
variable [Inhabited α]
theorem q7n (hk:∀x,(enc x).length=k)(l:List α):flatK enc k l.toArray=(cat enc l).toArray:=by
 refine ext_get! (by simp[qt hk]) fun t ht=>?_
 have yD:t<l.toArray.size*k:=by simpa using ht
 rw[get_flatK _ _ _ _ yD];have rA:0<k:=by
  rcases Nat.eq_zero_or_pos k with h|h
  ·subst h;simp at yD
  ·exact h
 have hi:t / k<l.length:=by
  have:l.toArray.size=l.length:=by simp
  rw[this,Nat.mul_comm]at yD;exact Nat.div_lt_of_lt_mul yD
 have hm:t%k<k:=Nat.mod_lt _ rA;have hx:l[t / k]? =Y l.toArray[t / k]!:=by rw[getElem!_pos l.toArray (t / k) (by simpa using hi)];simp[hi]
 have:=q2l hk l (t / k) (t%k) _ hx hm;rw[Nat.mul_comm,Nat.div_add_mod]at this;have e1:(enc l.toArray[t / k]!)[t%k]? =Y (enc l.toArray[t / k]!)[t%k]!:=by
  have hl:t%k<(enc l.toArray[t / k]!).length:=by rw[hk];exact hm
  rw[gg hl,getElem!_pos (enc l.toArray[t / k]!) (t%k) hl]
 rw[e1]at this;have hc:t<(cat enc l).length:=by rw[qt hk];simpa using yD
 rw[getElem!_pos ((cat enc l).toArray) t (by simpa using hc)];rw[gg hc]at this;simpa using (osi this).symm
theorem q32 {w:δ}{base e g n cap:Nat}{l:List α}(hk:∀x,(enc x).length=k)(h:w.ownsRow base e k (O g n cap) n (cat enc l)):HoldsK enc k w g 0 l.toArray:=by
 intro j hj;rw[q7n hk]at hj ⊢;have uv:j<(cat enc l).length:=by simpa using hj
 have h1:=h.cells (g:=g) rfl j ((cat enc l)[j]'uv) (gg uv);rw[Addr.add_lit]at h1;refine⟨?_,?_⟩
 ·rw[h1,getElem!_pos ((cat enc l).toArray) j hj];simp
 ·rcases h.2 with ⟨h0,_⟩|⟨g',dQ,cur,hv,hg,hb,_⟩
  ·cases h0
  ·cases hv
   exact jz hb _
omit [Inhabited α] in
theorem qa8 {w:δ}{g n:Nat}{os:Array Obj}(F:Array ε):w.grownBy (grow (putRow id (Sort.ahead w n) g 0 F) os) (Y g):=by
 refine⟨rfl,rfl,rfl,by simp,fun k hk ah=>?_⟩;rw[heap_grow_old _ _ (by simpa using hk)];have:g≠k:=fun e=>ah (by rw[e])
 simp[putRow,mapBlock,Sort.ahead,Array.getElem?_modify,this]
theorem qc6 {w W:δ}{base e g n cap:Nat}{l:List α}{d:Array α}(hk:∀x,(enc x).length=k)(h:w.ownsRow base e k (O g n cap) n (cat enc l))(hn:d.size=n)(S:SWK enc k w g 0 d W) :
  W.ownsRow base e k (O g n cap) n (cat enc d.toList)/\w.grownBy W (Y g):=by
 obtain⟨m,os,rfl⟩:=S;rcases h.2 with ⟨h0,_⟩|⟨g',dQ,cur,hv,hg,hb,h1,h2,h3,h4⟩
 ·cases h0
 ·cases hv
  have hF:flatK enc k d=(cat enc d.toList).toArray:=by have:=q7n hk d.toList;simpa using this
  refine⟨⟨by rw[qt hk,bo,hn],.inr ⟨g,cap,putCells id 0 (flatK enc k d) cur,rfl,hg,?_,h1,h2,by simp[putCells,h3],?_⟩⟩,qa8 _⟩
  ·have qY:g<w:=(gh.1 hb).1;show (grow (putRow id (Sort.ahead w m) g 0 (flatK enc k d)) os).heap[g]? =_;rw[heap_grow_old _ _ (by simpa using qY)];simp[putRow,mapBlock,Sort.ahead,Array.getElem?_modify,hb,onCells]
  ·rw[hF];have dF:(cat enc d.toList).length=n*k:=by rw[qt hk,bo,hn]
   have iq:n*k<=cur.size:=by rw[h3];exact gI _ h1
   apply List.ext_getElem?;intro j;by_cases hj:j<n*k
   ·rw[List.getElem?_take_of_lt hj,Array.getElem?_toList];simp[putCells,dF,hj,show j<cur.size by omega]
   ·rw[List.getElem?_take_eq_none (by omega),List.getElem?_eq_none (by omega)]
end
end Go.Cx
namespace Go.Cx
open Go.RowKit
section
variable {α:Type}(key:α->Int)
def ins (x:α):List α->List α
 |[]=>[x]
 |y :: l=>if key x<=key y then x :: y :: l else y :: ins x l
def stb:List α->List α
 |[]=>[]
 |x :: l=>ins key x (stb l)
variable {key}
theorem qa9 (x:α)(l:List α):qs key (x :: l) (ins key x l):=by
 induction l with
 |nil=>exact qs.refl _
 |cons y l ih =>
  unfold ins;split
  ·exact qs.refl _
  ·next h =>refine qs.trans ?_ (qs.cons y ih);show qs key ([x]++[y]++l) ([y]++[x]++l);refine qs.app (qs.comm _ _ fun a ha b hb=>?_) (qs.refl _);simp at ha hb;subst ha hb;omega
theorem qkd (x:α)(l:List α)(h:Srt key l):Srt key (ins key x l):=by
 induction l with
 |nil=>exact Srt.one x
 |cons y l ih =>
  have h':=gJ.1 h;unfold ins;split
  ·next hxy =>
   refine gJ.2 ⟨fun z hz=>?_,h⟩;rcases gH.1 hz with rfl|hz
   ·exact hxy
   ·have:=h'.1 z hz;omega
  ·next hxy =>
   refine gJ.2 ⟨fun z hz=>?_,ih h'.2⟩;rcases gH.1 (((qa9 x l).mem z).2 hz)with rfl|hz
   ·omega
   ·exact h'.1 z hz
theorem q3t (l:List α):qs key l (stb key l):=by
 induction l with
 |nil=>exact qs.refl _
 |cons x l ih=>exact(qs.cons x ih).trans (qa9 x _)
theorem q8r (l:List α):Srt key (stb key l):=by
 induction l with
 |nil=>exact Srt.nil
 |cons x l ih=>exact qkd x _ ih
theorem q8s {l m:List α}(h:qs key l m)(hs:Srt key m):m=stb key l:=Srt.uniq hs (q8r l) (h.symm.trans (q3t l))
theorem qdp (l:List α):(stb key l).length=l.length:=(q3t l).len.symm
theorem q2m (l:List α)(x:α):x∈stb key l↔x∈l:=((q3t l).mem x).symm
theorem qh8 {l:List α}(h:Srt key l):stb key l=l:=(q8s (qs.refl l) h).symm
theorem qke {β:Type}{key':β->Int}(f:α->β)(hk:∀x,key' (f x)=key x)(l:List α):stb key' (l.map f)=(stb key l).map f :=
 (q8s ((q3t l).qkb f hk) ((q8r l).map f hk)).symm
end
def Cl.canon (X:Cl):Cl:=⟨X.id,X.dim,stb Sd.c X.s⟩
def canon (L:List Cl):List Cl:=(stb Cl.id L).map Cl.canon
theorem q0z (L:List Cl):(canon L).length=L.length:=by simp[canon,qdp]
def xb {α:Type}(key:α->Int):List α->List α
 |[]=>[]
 |X :: L=>X :: (xb key L).filter (fun As=>key As != key X)
section
variable {α:Type}{key:α->Int}
theorem qee {L:List α}(c:Int):(∃X∈xb key L,key X=c)↔∃X∈L,key X=c:=by
 induction L with
 |nil=>simp[xb]
 |cons X L ih =>
  simp only [xb,List.mem_cons,List.mem_filter];constructor
  ·rintro ⟨As,rfl|⟨hY,ah⟩,rfl⟩
   ·exact⟨As,.inl rfl,rfl⟩
   ·obtain⟨Bd,hZ,he⟩:=ih.1 ⟨As,hY,rfl⟩;exact⟨Bd,.inr hZ,he⟩
  ·rintro ⟨As,rfl|hY,rfl⟩
   ·exact⟨As,.inl rfl,rfl⟩
   ·rcases Classical.em (key As=key X)with h|h
    ·exact⟨X,.inl rfl,h.symm⟩
    ·obtain⟨Bd,hZ,he⟩:=ih.2 ⟨As,hY,rfl⟩;exact⟨Bd,.inr ⟨hZ,by simpa [he]using h⟩,he⟩
theorem q62 (L:List α):(xb key L).Sublist L:=by
 induction L with
 |nil=>exact List.Sublist.refl _
 |cons X L ih=>exact(List.filter_sublist.trans ih).cons_cons X
theorem q3c (L:List α):(xb key L).length<=L.length:=(q62 L).length_le
theorem qby {L:List α}{X:α}(h:X∈xb key L):X∈L:=(q62 L).mem h
theorem q4z (L:List α)(X:α)(h:∃As∈L,key As=key X):xb key (L++[X])=xb key L:=by
 induction L with
 |nil=>obtain⟨As,hY,_⟩:=h;simp at hY
 |cons Bd L ih =>
  rw[bw];simp only [xb];by_cases h1:∃As∈L,key As=key X
  ·rw[ih h1]
  ·have hz:key Bd=key X:=by
    obtain⟨As,hY,he⟩:=h;rcases gH.1 hY with rfl|hY
    ·exact he
    ·exact absurd ⟨As,hY,he⟩ h1
   congr 1
   have:∀M:List α,(∀As∈M,key As≠key X)->xb key (M++[X])=xb key M++[X]:=by
    intro M;induction M with
    |nil=>intro _;simp[xb]
    |cons W M CR =>
     intro hM;rw[bw];simp only [xb];rw[CR (fun As hY=>hM As (by simp[hY])),gZ];have hw:(key X != key W)=true:=by simpa using fun e:key X=key W=>hM W (by simp) e.symm
     simp[hw]
   rw[this L (fun As hY e=>h1 ⟨As,hY,e⟩),gZ];simp[hz]
theorem qbf (L:List α)(X:α)(h:¬ ∃As∈L,key As=key X):xb key (L++[X])=xb key L++[X]:=by
 induction L with
 |nil=>simp[xb]
 |cons W M CR =>
  rw[bw];simp only [xb];rw[CR (fun ⟨As,hY,e⟩=>h ⟨As,by simp[hY],e⟩),gZ];have hw:(key X != key W)=true:=by simpa using fun e:key X=key W=>h ⟨W,by simp,e.symm⟩
  simp[hw]
theorem q63 {β:Type}{key':β->Int}(f:α->β)(hk:∀x,key' (f x)=key x)(L:List α):xb key' (L.map f)=(xb key L).map f:=by
 induction L with
 |nil=>rfl
 |cons X L ih =>
  simp only [List.map_cons,xb,ih,List.filter_map]
  congr 2
  refine List.filter_congr fun As _=>?_
  simp[hk]
theorem q4n (L:List α)(X:α)(h:X∈xb key L):L.find? (fun As=>key As == key X)=Y X:=by
 induction L with
 |nil=>simp[xb]at h
 |cons Bd L ih =>
  simp only [xb]at h;rcases gH.1 h with rfl|h
  ·simp
  ·obtain⟨h1,h2⟩:=gS.1 h;have h3:(key Bd == key X)=false:=by simpa using fun e:key Bd=key X=>by simp[e]at h2
   rw[List.find?_cons,h3];exact ih h1
end
def cellsOf (L:List Cl):List Cl:=xb Cl.id (canon L)
def q04 (L:List Cl)(dim:Int):List Int:=((cellsOf L).filter (fun X=>X.dim == dim)).map Cl.id
