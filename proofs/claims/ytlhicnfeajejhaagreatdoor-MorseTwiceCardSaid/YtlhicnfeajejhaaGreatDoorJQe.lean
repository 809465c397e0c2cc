/- cells: around, the error of the sides of a cell with respect to each other. Conditions: none. cells.Check: what the check of a complex answers. .. -/
import Derived.Deep.RegionHeldLaw
import Derived.Test.YtlhicnfeajejhaaGreatDoorJQd
set_option maxRecDepth 1000000
set_option maxHeartbeats 16000000
namespace Go.Cx
open Go.Proofs.YtlhicnfeajejhaaGreatDoor
section
variable (T:Int->Option Cl) (x:Cl)
def oF (k:Nat):List (Int×Nat×Int):=match x.s[k]? with
 | none=>[]
 | some s=>match T s.c with
  | none=>[]
  | some y=>y.s.map fun r=>(r.c,k,s.g*r.g)
def q1k (k:Nat):List (Int×Nat×Int):=(List.range k).flatMap (oF T x)
theorem q80 (k:Nat):q1k T x (k+1)=q1k T x k++oF T x k:=by
 unfold q1k;rw[List.range_succ,List.flatMap_append];simp
theorem qb2:q1k T x x.s.length=occ T x:=rfl
end
def q0c (o:List (Int×Nat×Int)) (c:Int):Int:=((occAt o c).map fun p=>p.2.2).sum
def plO (o:List (Int×Nat×Int)) (c:Int):List Int:=(occAt o c).map fun p=>(p.2.1:Int)
theorem q3g (o:List (Int×Nat×Int)) (p:Int×Nat×Int) (d:Int):occAt (o++[p]) d=if d=p.1 then occAt o d++[p] else occAt o d:=by
 unfold occAt;rw[List.filter_append];by_cases h:d=p.1
 ·simp[h]
 ·have:(p.1 == d)=false:=by simpa using fun e=>h e.symm
  simp[h,this]
theorem qfq (o:List (Int×Nat×Int)) (p:Int×Nat×Int):q0c (o++[p])=pu (q0c o) p.1 (q0c o p.1+p.2.2):=by
 funext d
 unfold q0c pu;rw[q3g];by_cases h:d=p.1
 ·subst h;simp
 ·simp[h]
theorem qim (o:List (Int×Nat×Int)) (p:Int×Nat×Int):plO (o++[p])=q1r (plO o) p.1 p.2.1:=by
 funext d
 unfold plO q1r;rw[q3g];by_cases h:d=p.1
 ·subst h;simp
 ·simp[h]
theorem qcm (o:List (Int×Nat×Int)) (h:∀ p∈o,-1<=p.2.2/\p.2.2<=1) (c:Int) : -(o.length:Int)<=q0c o c/\q0c o c<=o.length:=by
 induction o with
 | nil=>simp[q0c,occAt]
 | cons p o ih =>
  have h1:=ih fun q hq=>h q (List.mem_cons_of_mem _ hq)
  have h2:=h p List.mem_cons_self;unfold q0c occAt at h1 ⊢;rw[List.filter_cons];split
  ·rw[List.map_cons,List.sum_cons,List.length_cons];omega
  ·rw[List.length_cons];omega
theorem qle (o:List (Int×Nat×Int)) (c:Int):(plO o c).length<=o.length:=by
 unfold plO occAt;rw[List.length_map];exact List.length_filter_le _ _
end Go.Cx
namespace Go.Proofs.YtlhicnfeajejhaaGreatDoor
open Go.RowKit Go.Cx Go.Maps
attribute [local go_sem ↓] Go.wp_at_zero Go.wp_at_succ
theorem qin (i d:Int) (a:Option Addr) (n c:Nat):∀ w:World,(Instr.field 75 (.agg #[.int .i64 i,.int .i64 d,.slice a n c]) 2).run Tryz.prog w = .ok (.slice a n c) w:=fun w=>by kernel_rfl
def q99 (s:List Sd):Prop:=s.length<=64/\∀ r∈s,I64 r.c/\(r.g=1\/r.g = -1)
theorem qio {T:Int->Option Cl} {x:Cl} (hT:∀ c y,T c=some y->q99 y.s) (k:Nat):(oF T x k).length<=64:=by
 unfold oF;cases x.s[k]? with
 | none=>simp
 | some s =>
  dsimp only
  cases h:T s.c with
  | none=>simp
  | some y=>simp only [List.length_map];exact(hT _ y h).1
theorem qb3 {T:Int->Option Cl} {x:Cl} (hT:∀ c y,T c=some y->q99 y.s) (k:Nat):(q1k T x k).length<=k*64:=by
 induction k with
 | zero=>simp[q1k]
 | succ k ih=>rw[q80,List.length_append];have:=qio (x:=x) hT k;omega
theorem qmm {T:Int->Option Cl} {x:Cl} (hx:q99 x.s) (hT:∀ c y,T c=some y->q99 y.s) (k:Nat):∀ p∈oF T x k,-1<=p.2.2/\p.2.2<=1:=by
 unfold oF;cases hs:x.s[k]? with
 | none=>simp
 | some s =>
  dsimp only
  cases h:T s.c with
  | none=>simp
  | some y =>
   intro p hp;obtain⟨r,hr,rfl⟩:=List.mem_map.1 hp;have h1:=(hx.2 s (List.mem_of_getElem? hs)).2;have h2:=((hT _ y h).2 r hr).2;show -1<=s.g*r.g/\s.g*r.g<=1;rcases h1 with h1 | h1 <;> rcases h2 with h2 | h2 <;> rw[h1,h2] <;> decide
theorem qlf {T:Int->Option Cl} {x:Cl} (hx:q99 x.s) (hT:∀ c y,T c=some y->q99 y.s) (k:Nat):∀ p∈q1k T x k,-1<=p.2.2/\p.2.2<=1:=by
 intro p hp;obtain⟨i,_,hi⟩:=List.mem_flatMap.1 hp;exact qmm hx hT i p hi
theorem q81 {S:Nat->Prop} {w w':World} (h:Gs S w w') {P:Program} {k:TypeId} {H:Type} {R:Value->Option (DataW H×List MemPlace)} {b r n:Nat} {D:DataW H} {left:Lit->Bool} {cnt:Nat} (hr:w.ranges P k R b r n D left cnt) (hb:¬ S b) (hr':¬ S r):w'.ranges P k R b r n D left cnt:=by
 obtain⟨es,clock,since,seen,c0,hb0,F,hs,hD,hr0,rest⟩:=hr;have lb:b < w.heap.size:=(Array.getElem?_eq_some_iff.1 hb0).1;have lr:r < w.heap.size:=(Array.getElem?_eq_some_iff.1 hr0).1;exact⟨es,clock,since,seen,c0,by rw[h.blk b lb hb];exact hb0,F,hs,hD,by rw[h.blk r lr hr'];exact hr0,rest⟩
theorem qb4 {jl:Int->List Int} {n:Nat} (h:∀ i,(jl i).length<=n) (c x:Int):∀ i,(q1r jl c x i).length<=n+1:=fun i=>by
 unfold q1r;split
 ·rw[List.length_append];have:=h c;simp;omega
 ·have:=h i;omega
theorem qb5 {jl:Int->List Int} {c x i k:Int} : k∈q1r jl c x i↔k∈jl i\/(i=c/\k=x):=by
 unfold q1r;split
 ·next e=>subst e;rw[List.mem_append,List.mem_singleton];simp
 ·next e=>simp[e]
theorem q82 (x:Int):(Lit.int .i64 x).sameKey (Lit.int .i64 x)=true:=by
 simp[Lit.sameKey]
theorem qea {left:Lit->Bool} {c nx:Int} (h:(left (.int .i64 c) && !(Lit.int .i64 c).sameKey (Lit.int .i64 nx))=false) (hn:c≠nx):left (.int .i64 c)=false:=by
 cases hl:left (.int .i64 c) with
 | false=>rfl
 | true =>
  rw[hl,Bool.true_and] at h;have:(Lit.int .i64 c).sameKey (Lit.int .i64 nx)=true:=by simpa using h
  have:=WideAt.sameKey_eq this;injection this with _ e
  exact absurd e hn
theorem q9a {T:Int->Option Cl} {x:Cl} {c i:Int} (h:i∈plO (occ T x) c):∃ k:Nat,i=k/\k < x.s.length:=by
 unfold plO at h;obtain⟨p,hp,rfl⟩:=List.mem_map.1 h;have hp:=(List.mem_filter.1 hp).1;unfold occ at hp;obtain⟨k,hk,hp⟩:=List.mem_flatMap.1 hp;have hk:=List.mem_range.1 hk;refine⟨k,?_,hk⟩;rw[List.getElem?_eq_getElem hk] at hp
 dsimp only at hp
 split at hp
 ·cases hp
 ·obtain⟨r,_,rfl⟩:=List.mem_map.1 hp;rfl
theorem qeb {T:Int->Option Cl} {x:Cl} {o:List (Int×Nat×Int)} (ho:o=occ T x) (hx:x.s.length<=64) {c i:Int} (h:i∈plO o c):I64 i:=by
 rw[ho] at h;obtain⟨k,rfl,hk⟩:=q9a h;unfold I64;omega
theorem q43:∀ (L R:List Int),L.Nodup->(∀ c∈L,c∈R)->L.length<=R.length
 | [],_,_,_=>Nat.zero_le _
 | a :: l,R,hd,hs=>by
  obtain⟨h1,h2⟩:=List.nodup_cons.1 hd;have ha:=hs a (List.mem_cons_self ..);have:=q43 l (R.erase a) h2 (fun c hc=>(List.mem_erase_of_ne (fun e=>by subst e;exact h1 hc)).2 (hs c (List.mem_cons_of_mem _ hc)));rw[List.length_erase_of_mem ha] at this;have:0 < R.length:=List.length_pos_of_mem ha;simp only [List.length_cons];omega
theorem qfr {L R:List Int} (hd:L.Nodup) (hs:∀ c∈L,c∈R) (he:R.length<=L.length):∀ c∈R,c∈L:=fun c hc=>by
 apply Classical.byContradiction;intro hn;have:=q43 (c :: L) R (List.nodup_cons.2 ⟨hn,hd⟩) (fun d hd=>(List.mem_cons.1 hd).elim (fun e=>e ▸ hc) (hs d));simp only [List.length_cons] at this;omega
theorem q44 {o:List (Int×Nat×Int)} {c i:Int} : i∈plO o c↔∃ (k:Nat) (g:Int),i=k/\(c,k,g)∈o:=by
 unfold plO occAt;constructor
 ·intro h;obtain⟨p,hp,rfl⟩:=List.mem_map.1 h;obtain⟨h1,h2⟩:=List.mem_filter.1 hp;have h2:p.1=c:=by simpa using h2
  subst h2;exact⟨p.2.1,p.2.2,rfl,h1⟩
 ·rintro ⟨k,g,rfl,h⟩;exact List.mem_map.2 ⟨(c,k,g),List.mem_filter.2 ⟨h,by simp⟩,rfl⟩
theorem qcn {T:Int->Option Cl} {x:Cl} {o:List (Int×Nat×Int)} (ho:o=occ T x) (hsum:∀ c,q0c o c=0) (h2:∀ c,plO o c≠[]->(plO o c).length=2) (hn:0 < x.s.length) {S:Int->Prop} {L:List Int} (hL:L.Nodup) (hm:∀ c,c∈L↔S c) (h0:S 0)
  {J:Int->Int->Prop} (hJ:∀ i k,J i k↔∃ c,plO o c=[i,k]\/plO o c=[k,i]) (hr:∀ d,Relation.TransGen J 0 d->S d) (hs:∀ d,S d->d=0\/Relation.TransGen J 0 d) :
  yi T x=if L.length=x.s.length then 0 else 25:=by
 have hplace:∀ i k,J i k->∃ k':Nat,k=k'/\k' < x.s.length:=fun i k h=>by
  obtain⟨c,hc⟩:=(hJ i k).1 h;refine q9a (T:=T) (x:=x) (c:=c) ?_;rw[<-ho];rcases hc with hc | hc <;> rw[hc] <;> simp
 have hadj:∀ i k:Nat,J i k->adj o i k:=fun i k h=>by
  obtain⟨c,hc⟩:=(hJ i k).1 h;have h1:(i:Int)∈plO o c:=by rcases hc with hc | hc <;> rw[hc] <;> simp
  have h2:(k:Int)∈plO o c:=by rcases hc with hc | hc <;> rw[hc] <;> simp
  obtain⟨a,g,e1,m1⟩:=q44.1 h1;obtain⟨b,g',e2,m2⟩:=q44.1 h2;have e1:i=a:=by omega
  have e2:k=b:=by omega
  subst e1 e2;exact⟨c,g,g',m1,m2⟩
 have hback:∀ i k:Nat,adj o i k->i=k\/J i k:=fun i k ⟨c,g,g',m1,m2⟩=>by
  have h1:(i:Int)∈plO o c:=q44.2 ⟨i,g,rfl,m1⟩;have h3:(k:Int)∈plO o c:=q44.2 ⟨k,g',rfl,m2⟩;have hl:=h2 c (fun e=>by rw[e] at h1;cases h1)
  match hp:plO o c,hl with
  | [a,b],_ =>
   rw[hp] at h1 h3;simp only [List.mem_cons,List.not_mem_nil,or_false] at h1 h3;by_cases he:i=k
   ·exact .inl he
   ·refine .inr ((hJ i k).2 ⟨c,?_⟩);rw[hp];rcases h1 with h1 | h1 <;> rcases h3 with h3 | h3
    ·omega
    ·rw[h1,h3];exact .inl rfl
    ·rw[h1,h3];exact .inr rfl
    ·omega
 have hto:∀ d,Relation.TransGen J 0 d->∃ k:Nat,d=k/\k < x.s.length/\Relation.TransGen (adj o) 0 k:=fun d hd=>by
  induction hd with
  | single h =>
   obtain⟨k,rfl,hk⟩:=hplace _ _ h;exact⟨k,rfl,hk,.single (hadj 0 k h)⟩
  | tail _ h ih =>
   obtain⟨b,rfl,_,hb⟩:=ih;obtain⟨k,rfl,hk⟩:=hplace _ _ h;exact⟨k,rfl,hk,.tail hb (hadj b k h)⟩
 have hfrom:∀ k:Nat,Relation.TransGen (adj o) 0 k->k=0\/Relation.TransGen J 0 (k:Int):=fun k hk=>by
  induction hk with
  | single h =>
   rcases hback _ _ h with rfl | h
   ·exact .inl rfl
   ·exact .inr (.single h)
  | tail _ h ih =>
   rcases hback _ _ h with rfl | h
   ·exact ih
   ·rcases ih with rfl | ih
    ·exact .inr (.single h)
    ·exact .inr (.tail ih h)
 have hsub:∀ c∈L,c∈(List.range x.s.length).map fun k:Nat=>(k:Int):=fun c hc=>by
  rcases hs c ((hm c).1 hc) with rfl | h
  ·exact List.mem_map.2 ⟨0,List.mem_range.2 hn,rfl⟩
  ·obtain⟨k,rfl,hk,_⟩:=hto _ h;exact List.mem_map.2 ⟨k,List.mem_range.2 hk,rfl⟩
 have hRl:((List.range x.s.length).map fun k:Nat=>(k:Int)).length=x.s.length:=by simp
 have hRd:((List.range x.s.length).map fun k:Nat=>(k:Int)).Nodup:=by
  unfold List.Nodup;rw[List.pairwise_map];exact List.Pairwise.imp (fun h e=>h (by omega)) (List.nodup_range (n:=x.s.length))
 have hS:∀ k:Nat,S k↔(k=0\/Relation.TransGen J 0 (k:Int)):=fun k=>⟨fun h=>(hs _ h).imp (fun e=>by omega) id,fun h=>h.elim (fun e=>by rw[e];exact h0) (hr _)⟩
 classical
 have hE:yi T x=if ∀ i < x.s.length,i=0\/Relation.TransGen (adj o) 0 i then 0 else 25:=by
  unfold yi;rw[<-ho,if_neg (fun ⟨q,_,hq⟩=>hq (hsum q.1)),if_neg];rintro ⟨q,hq,hne⟩;apply hne;have:plO o q.1≠[]:=fun e=>by
   have:(q.2.1:Int)∈plO o q.1:=q44.2 ⟨q.2.1,q.2.2,rfl,hq⟩;rw[e] at this;cases this
  have:=h2 _ this;unfold plO at this;rwa [List.length_map] at this
 rw[hE];by_cases hl:L.length=x.s.length
 ·rw[if_pos hl,if_pos];intro i hi;have:=(hS i).1 ((hm _).1 (qfr hL hsub (by omega) i (List.mem_map.2 ⟨i,List.mem_range.2 hi,rfl⟩)));rcases this with h | h
  ·exact .inl h
  ·obtain⟨k,e,_,hk⟩:=hto _ h;have:i=k:=by omega
   subst this;exact .inr hk
 ·rw[if_neg hl,if_neg];intro hall;apply hl;have h1:=q43 _ _ hL hsub;have h2:=q43 _ L hRd (fun c hc=>by
   obtain⟨k,hk,rfl⟩:=List.mem_map.1 hc;have hk:=List.mem_range.1 hk;rw[hm,hS];rcases hall k hk with h | h
   ·exact .inl h
   ·exact hfrom k h)
  omega
theorem qip (T B n:Nat) (m:List Ce) (x:Ce) (w:World) (q0:w.cell? ⟨T,0,none⟩=some (.map (some B))) (hmp:Mp Tryz.prog 3 w B n (gOf m)) (hs:Sl w 2 x.sl (cat Sd.enc x.s)) (ht:∀ y∈m,Sl w 2 y.sl (cat Sd.enc y.s)) (hx:q99 x.s) (hx0:0 < x.s.length) (hT:∀ c y,qx m c=some y->q99 y.s) :
  Calls Tryz.prog 179 #[.pointer (some ⟨T,0,none⟩),x.v] w fun e w'=>e = .returned (.int .i64 (yi (qx m) x.cl))/\Below w.heap.size w w':=by
 unfold Ce.sl at hs;obtain⟨h1,h2,h3,h4,h5⟩:=hs.open;rw[qt Sd.qp] at h3;have hl:x.s.length=x.n:=by omega
 unfold maxLen at h2;unfold Ce.v;have hxn:x.n<=64:=by have:=hx.1;omega
 have HS:=lhd (aiq hs ht);have HM:=lhd hmp;have HX:=lhd (aiq hx (aiq hx0 (aiq hT hl)));have hmm:=@run_makeMap Tryz.prog;have mixed:Tryz.prog.follows .mixedOrders=true:=by kernel_rfl
 clear h3 h4 h5 hs ht hmp hx hx0 hT hl;go_enter Tryz.func179,Tryz.ntmps179;go_wp2_with fail;obtain⟨W,hW⟩ : ∃ W,W=((w.alloc (.cells #[.int .i64 x.id,.int .i64 x.dim,.slice x.a x.n x.c] 75)).alloc (.map #[] 0)).alloc (.map #[] 0):=⟨_,rfl⟩
 rw[<-hW];have hBW:Below w.heap.size w W:=by rw[hW];exact(((Below.refl _ w).alloc (nlr _) _).alloc (by simp) _).alloc (by simp;omega) _
 have k2:W.cell? ⟨w.heap.size,2,none⟩=some (.slice x.a x.n x.c):=by rw[hW];exact qk (qk (qd w _ _ (0,0) 2) _) _
 have mS:MpI W (w.heap.size+1) 0 (q0c []):=by
  rw[hW,show q0c []=fun _=>0 from rfl];have:=MpI.made (w.alloc (.cells #[.int .i64 x.id,.int .i64 x.dim,.slice x.a x.n x.c] 75));rw[World.size_alloc] at this;exact this.q8 ((Below.refl _ _).alloc (nlr _) _)
 have mM:Rws W (w.heap.size+3) (w.heap.size+1+1) (fun _=>False) 0 (plO []):=by
  rw[hW,show plO []=fun _=>[] from rfl];have:=Rws.made ((w.alloc (.cells #[.int .i64 x.id,.int .i64 x.dim,.slice x.a x.n x.c] 75)).alloc (.map #[] 0)) (w.heap.size+3) (fun _=>False);simp only [World.size_alloc] at this;exact this
 have hWz:W.heap.size=w.heap.size+3:=by rw[hW];simp
 obtain⟨bx,hbx⟩ : ∃ b,b=w.heap.size:=⟨_,rfl⟩
 obtain⟨BU,hBU⟩ : ∃ b,b=w.heap.size+1:=⟨_,rfl⟩
 obtain⟨BM,hBM⟩ : ∃ b,b=w.heap.size+1+1:=⟨_,rfl⟩
 obtain⟨base,hbase⟩ : ∃ b,b=w.heap.size+3:=⟨_,rfl⟩
 rw[<-hBM] at mM ⊢;rw[<-hBU] at mS ⊢;rw[<-hbase] at mM hWz;have hord:bx < BU/\BU < BM/\BM < base:=by omega
 have hbw:w.heap.size<=bx/\bx<=w.heap.size:=by omega
 rw[<-hbx] at k2 ⊢;have HW:=lhd (aiq hBW (aiq hbx (aiq hBU (aiq hBM hbase))));have hWz':base<=W.heap.size:=by omega
 clear hW hBW hbx hBU hBM hbase hWz;go_wp2_with fail;go_loopw [23] (fun i wr=>∃ k:Nat,i = .int .i64 k/\k<=x.n/\MpI wr BU (q1k (qx m) x.cl k).length (q0c (q1k (qx m) x.cl k))/\Rws wr base BM (fun _=>False) (q1k (qx m) x.cl k).length (plO (q1k (qx m) x.cl k))/\Hid (Below w.heap.size w wr)/\wr.cell? ⟨bx,2,none⟩=some (.slice x.a x.n x.c)/\base<=wr.heap.size) (fun i _=>x.n - (vI i).toNat)
 case atStart=>exact⟨0,rfl,Nat.zero_le _,mS,mM,HW.out.1,k2,hWz'⟩
 case round =>
  clear mS mM k2 hWz';obtain⟨k,rfl,hk,mS,mM,HB,k2,hzr⟩:=hrel;by_cases hlt:k < x.n
  ·obtain⟨s,hs⟩ : ∃ s,x.s[k]? = some s:=⟨_,List.getElem?_eq_getElem (by rw[HX.out.2.2.2];exact hlt)⟩
   obtain⟨_,_,_,h5,h6⟩:=(HS.out.1.q8 HB.out).open;obtain⟨ad,had⟩ : ∃ ad,x.a=some ad:=by
    cases ha:x.a with
    | none=>have:=h5 ha;omega
    | some ad=>exact⟨ad,rfl⟩
   obtain⟨e0,e1⟩:=zw x.s k s hs;have g0:wr.cell? (ad.add (k*2))=some (.int .i64 s.c):=h6 ad had _ _ e0;have g1:wr.cell? ⟨(ad.add (k*2)).block,(ad.add (k*2)).off+1,none⟩=some (.int .i64 s.g):=by rw[qi _ _ _ (by omega)];exact h6 ad had _ _ e1
   have hsg:=HX.out.1.2 s (List.mem_of_getElem? hs);have hkey:=yx hsg.1;have q0r:wr.cell? ⟨T,0,none⟩=some (.map (some B)):=Cx.q8 HB.out q0;obtain⟨zi,zd,za,zn,zc,hz⟩ : ∃ (zi zd:Int) (za:Option Addr) (zn zc:Nat),(gOf m s.c).getD (.agg #[.int .i64 0,.int .i64 0,.slice none 0 0]) = .agg #[.int .i64 zi,.int .i64 zd,.slice za zn zc]:=by
    unfold gOf;cases m.find? (fun y=>y.id == s.c) with
    | none=>exact⟨_,_,_,_,_,rfl⟩
    | some y=>exact⟨_,_,_,_,_,rfl⟩
   obtain⟨V,hV⟩ : ∃ V,V=wr.alloc (.cells #[.int .i64 s.c,.int .i64 s.g] 108):=⟨_,rfl⟩
   have hBV:Below wr.heap.size wr V:=by rw[hV];exact(Below.refl _ wr).alloc (nlr _) _
   have hlk:(Instr.lookup 181 (.map (some B)) (.int .i64 s.c) false).run Tryz.prog V.drew = .ok (.agg #[.int .i64 zi,.int .i64 zd,.slice za zn zc]) V.drew:=by
    have:=((HM.out.q8 HB.out).q8 (hBV.trans (qb (Below.refl _ V) 1 |>.mono hBV.size))).look Tryz.underlying3 Tryz.underlying181 (zeroCell V.drew) hkey
    rwa [hz] at this
   have v0:V.cell? ⟨wr.heap.size,0,none⟩=some (.int .i64 s.c):=by rw[hV];exact qd wr _ _ (0,0) 0
   have v1:V.cell? ⟨wr.heap.size,1,none⟩=some (.int .i64 s.g):=by rw[hV];exact qd wr _ _ (0,0) 1
   have vT:V.cell? ⟨T,0,none⟩=some (.map (some B)):=Cx.q8 hBV q0r;have hfd:=qin zi zd za zn zc;have HZ:=lhd (aiq hs (aiq hz (aiq hBV hsg)));have HAD:=lhd had;rw[had] at k2 ⊢;clear h5 h6 e0 e1 hs hz hBV hsg q0r;go_upto_region 5 with fail;rw[<-hV];clear hV
   go_still (by kernel_rfl)
   obtain⟨ys,hys,hoF,hyk⟩ : ∃ ys:List Sd,(∀ U,Below w.heap.size w U->Sl U 2 (.slice za zn zc) (cat Sd.enc ys))/\oF (qx m) x.cl k=ys.map (fun r=>(r.c,k,s.g*r.g))/\q99 ys:=by
    obtain⟨t1,t2⟩:=q97 m s.c;have hsk:x.cl.s[k]? = some s:=HZ.out.1;cases hT:qx m s.c with
    | none =>
     rw[hT] at t1;have hg:gOf m s.c=none:=by
      cases hg:gOf m s.c with
      | none=>rfl
      | some v=>rw[hg] at t1;cases t1
     have h1:=HZ.out.2.1;rw[hg] at h1;have h2:(Value.agg #[.int .i64 0,.int .i64 0,.slice none 0 0]) = .agg #[.int .i64 zi,.int .i64 zd,.slice za zn zc]:=h1;obtain⟨rfl,rfl,rfl⟩ : none=za/\0=zn/\0=zc:=⟨by simp at h2;exact h2.2.2.1,by simp at h2;exact h2.2.2.2.1,by simp at h2;exact h2.2.2.2.2⟩
     refine⟨[],fun U _=>Sl.nil _ _,?_,by decide,fun r hr=>by cases hr⟩;unfold oF;rw[hsk];dsimp only;rw[hT];rfl
    | some y =>
     obtain⟨z,hz1,hz2,hz3,hz4⟩:=t2 y hT;have h1:=HZ.out.2.1;rw[hz4] at h1;have h2:(Value.agg #[.int .i64 z.id,.int .i64 z.dim,.slice z.a z.n z.c]) = .agg #[.int .i64 zi,.int .i64 zd,.slice za zn zc]:=h1;have h3:Value.slice z.a z.n z.c = .slice za zn zc:=by simp at h2 ⊢;exact h2.2.2
     refine⟨y.s,fun U hU=>?_,?_,HX.out.2.2.1 _ y hT⟩
     ·rw[<-h3,<-hz3];exact(HS.out.2 z hz1).q8 hU
     ·unfold oF;rw[hsk];dsimp only;rw[hT]
   have HY:=lhd (aiq hys (aiq hoF hyk));have hznl:ys.length=zn:=by
    obtain⟨_,_,h3,_⟩:=(hys _ HB.out).open;rw[qt Sd.qp] at h3;omega
   have hzn:zn<=64:=by have:=hyk.1;omega
   have HZN:=lhd hznl;obtain⟨U,hU⟩ : ∃ U,U=V.drew:=⟨_,rfl⟩
   have hBU:Below wr.heap.size wr U:=by rw[hU];exact HZ.out.2.2.1.trans ((qb (Below.refl _ V) 1).mono HZ.out.2.2.1.size)
   have uk2:=Cx.q8 hBU k2;have us1:U.cell? ⟨wr.heap.size,1,none⟩=some (.int .i64 s.g):=by rw[hU];exact v1
   have umS:=mS.q8 hBU;have umM:=(mM.qb1 (Av':=fun b=>b=wr.heap.size) (fun b h=>.inl (by omega))).q8 hBU;have hzU:base<=U.heap.size:=Nat.le_trans hzr hBU.size;have HBU:=lhd (HB.out.trans (hBU.mono HB.out.size));have hsgv:=HZ.out.2.2.2.2;change Exit.then _ _ _ _ V.drew;rw[<-hU];obtain⟨bs,hbs⟩ : ∃ bs,bs=wr.heap.size:=⟨_,rfl⟩
   rw[<-hbs] at us1 umM ⊢;have hbsr:base<=bs:=by omega
   have hbsU:bs < U.heap.size:=World.block_lt_of_cell? U ⟨bs,1,none⟩ us1;have HBS:=lhd hbs;clear hU hbs hys hoF hyk hznl hBU v0 v1 vT mS mM k2 hlk hfd;obtain⟨sg,hsge⟩ : ∃ sg,sg=s.g:=⟨_,rfl⟩
   rw[<-hsge] at us1 hsgv;have HSG:=lhd hsge;clear hsge;obtain⟨wo,hwo⟩ : ∃ wo,wo=wr:=⟨_,rfl⟩
   subst hwo;go_wp2_with fail;go_loopw [37] (fun i wr=>∃ jj:Nat,i = .int .i64 jj/\jj<=zn/\MpI wr BU (q1k (qx m) x.cl k++(oF (qx m) x.cl k).take jj).length (q0c (q1k (qx m) x.cl k++(oF (qx m) x.cl k).take jj))/\Rws wr base BM (fun b=>b=bs) (q1k (qx m) x.cl k++(oF (qx m) x.cl k).take jj).length (plO (q1k (qx m) x.cl k++(oF (qx m) x.cl k).take jj))/\Hid (Below w.heap.size w wr)/\wr.cell? ⟨bx,2,none⟩=some (.slice (some ad) x.n x.c)/\wr.cell? ⟨bs,1,none⟩=some (.int .i64 sg)/\base<=wr.heap.size) (fun i _=>zn - (vI i).toNat)
   case atStart=>exact⟨0,rfl,Nat.zero_le _,by simpa using umS,by simpa using umM,HBU.out,uk2,us1,hzU⟩
   case round =>
    clear uk2 us1 umS umM hzU;obtain⟨jj,rfl,hjj,mS,mM,HB2,k2,s1,hzr2⟩:=hrel;obtain⟨O,hO⟩ : ∃ O,O=q1k (qx m) x.cl k++(oF (qx m) x.cl k).take jj:=⟨_,rfl⟩
    rw[<-hO] at mS mM;have HO:=lhd hO;clear hO;by_cases hjl:jj < zn
    ·obtain⟨r,hr⟩ : ∃ r,ys[jj]? = some r:=⟨_,List.getElem?_eq_getElem (by rw[HZN.out];exact hjl)⟩
     obtain⟨_,_,_,h5,h6⟩:=(HY.out.1 wr HB2.out).open;obtain⟨ay,rfl⟩ : ∃ ay,za=some ay:=by
      cases za with
      | none=>have:=h5 rfl;omega
      | some ay=>exact⟨ay,rfl⟩
     obtain⟨e0,e1⟩:=zw ys jj r hr;have r0:wr.cell? (ay.add (jj*2))=some (.int .i64 r.c):=h6 ay rfl _ _ e0;have r1:wr.cell? ⟨(ay.add (jj*2)).block,(ay.add (jj*2)).off+1,none⟩=some (.int .i64 r.g):=by rw[qi _ _ _ (by omega)];exact h6 ay rfl _ _ e1
     obtain⟨hrI,hrg⟩:=HY.out.2.2.2 r (List.mem_of_getElem? hr);have hkr:=yx hrI;obtain⟨rg,hrge⟩ : ∃ rg,rg=r.g:=⟨_,rfl⟩
     rw[<-hrge] at r1 hrg;obtain⟨pr,hpr⟩ : ∃ pr,pr=sg*rg:=⟨_,rfl⟩
     have hpb : -1<=pr/\pr<=1:=by rw[hpr];rcases hsgv with h | h <;> rcases hrg with h' | h' <;> rw[h,h'] <;> decide
     have hmulv:wrap64 (sg*rg)=pr:=by rw[<-hpr];exact IntWalk.wrap64_in _ (by omega)
     have hmulw:IntKind.i64.wrap (sg*rg)=pr:=(IntWalk.i64_left _).trans hmulv;have hOl:O.length<=4096+64:=by
      rw[HO.out,List.length_append,List.length_take];have h1:=qb3 (x:=x.cl) HX.out.2.2.1 k;have h2:=qio (x:=x.cl) HX.out.2.2.1 k;omega
     have hOs:∀ p∈O,-1<=p.2.2/\p.2.2<=1:=fun p hp=>by
      rw[HO.out] at hp;rcases List.mem_append.1 hp with hp | hp
      ·exact qlf HX.out.1 HX.out.2.2.1 k p hp
      ·exact qmm HX.out.1 HX.out.2.2.1 k p (List.mem_of_mem_take hp)
     obtain⟨S,hS⟩ : ∃ S,S=q0c O r.c:=⟨_,rfl⟩
     have hSb : -(4160:Int)<=S/\S<=4160:=by rw[hS];have:=qcm O hOs r.c;omega
     have haddv:wrap64 (S+pr)=S+pr:=IntWalk.wrap64_in _ (by omega);have haddw:IntKind.i64.wrap (S+pr)=S+pr:=(IntWalk.i64_left _).trans haddv;have hO1:q1k (qx m) x.cl k++(oF (qx m) x.cl k).take (jj+1)=O++[(r.c,k,pr)]:=by
      rw[HO.out,List.take_add_one,<-List.append_assoc,HY.out.2.1,List.getElem?_map,hr];show _++[(r.c,k,s.g*r.g)]=_;rw[hpr,HSG.out,hrge]
     obtain⟨R,hR⟩ : ∃ R,R=wr.alloc (.cells #[.int .i64 r.c,.int .i64 rg] 108):=⟨_,rfl⟩
     have hBR:Below wr.heap.size wr R:=by rw[hR];exact(Below.refl _ wr).alloc (nlr _) _
     have hRz:R.heap.size=wr.heap.size+1:=by rw[hR];simp
     have rb0:R.cell? ⟨wr.heap.size,0,none⟩=some (.int .i64 r.c):=by rw[hR];exact qd wr _ _ (0,0) 0
     have hlkS:(Instr.lookup 122 (.map (some BU)) (.int .i64 r.c) false).run Tryz.prog R = .ok (.int .i64 S) R:=by
      have:=(mS.q8 hBR).look hrI
      rwa [<-hS] at this
     rw[hR] at hlkS;obtain⟨gS,hmS,hgS⟩:=mS.q8 hBR;have hOm:O.length < maxLen:=by unfold maxLen;omega
     have s1R:R.cell? ⟨bs,1,none⟩=some (.int .i64 sg):=Cx.q8 hBR s1;have k2R:=Cx.q8 hBR k2;obtain⟨g,vm,a1',a2,a3,a4',a5,a6⟩:=mM;have hvlt:∀ c b,(vm c).ownBlock=some b->base<=b/\b < wr.heap.size:=fun c b h=>(a4' c).lt b h
     have a1R:=a1'.q8 hBR;have a4R:=fun c=>qa (a4' c) hBR
     have HJ:=lhd (aiq hS (aiq hgS (aiq hO1 (aiq hBR (aiq hOl hRz)))));have hbsw:bs < wr.heap.size:=World.block_lt_of_cell? wr ⟨bs,1,none⟩ s1;clear h5 h6 e0 e1 hr hrge hrg hpr hpb hmulv haddv hOs hS hSb hO1 hBR hgS mS a1' a4' hOl;go_wp2_with (first
      |(at_mapUpdate;rw[<-hR];clear hR;refine q1z rfl _ _ _ 122 rfl hmS Tryz.underlying3 Tryz.underlying122 hOm r.c _ rfl rfl rfl hkr ?_)
      | fail)
     intro w3 hm3 hg3;have hG3s:=hg3.size;have hmS3:MpI w3 BU (O.length+1) (pu (q0c O) r.c (S+pr)):=MpI.q6j HJ.out.2.1 hm3;have rb3:w3.cell? ⟨wr.heap.size,0,none⟩=some (.int .i64 r.c):=ql hg3 rb0 (fun k e=>by cases e;show wr.heap.size≠BU;omega);have s13:w3.cell? ⟨bs,1,none⟩=some (.int .i64 sg):=ql hg3 s1R (fun k e=>by cases e;show bs≠BU;omega);have k23:w3.cell? ⟨bx,2,none⟩=some (.slice (some ad) x.n x.c):=ql hg3 k2R (fun k e=>by cases e;show bx≠BU;omega);have hB3:Below w.heap.size w w3:=(HB2.out.trans (HJ.out.2.2.2.1.mono HB2.out.size)).grown hg3 (by have:=HB2.out.size;rw[HJ.out.2.2.2.2.2];omega) (fun k e=>by cases e;omega);rw[HJ.out.2.2.2.2.2] at hG3s;have a1:Mp Tryz.prog 3 w3 BM O.length g:=a1R.kept hg3 (fun e=>by cases e;omega);have a4:∀ c,w3.ownsRow base 3 1 (vm c) (plO O c).length (ints (plO O c)):=fun c=>(a4R c).kept hg3 (by
      cases ho:(vm c).ownBlock with
      | none=>exact .inl rfl
      | some b=>exact .inr fun e=>by have:=(hvlt c b ho).1;injection e with e;omega)
     obtain⟨vr,hvr⟩ : ∃ vr,vr=vm r.c:=⟨_,rfl⟩
     have hlkA:∀ X:World,Mp Tryz.prog 3 X BM O.length g->(Instr.lookup 215 (.map (some BM)) (.int .i64 r.c) false).run Tryz.prog X = .ok vr X:=fun X hX=>by
      have:=hX.look Tryz.underlying3 Tryz.underlying215 (q42 X) hkr;rw[this,a2 r.c,hvr]
     have hl1:=hlkA w3.drew a1;have hl2:=hlkA (w3.drew.alloc (.cells #[.int .i64 k] 3)) (Mp.alloc (w:=w3.drew) a1 _);have hl3:=hlkA (w3.alloc (.cells #[.int .i64 k] 3)).drew (Mp.alloc a1 _);have hrow:w3.ownsRow base 3 1 vr (plO O r.c).length (ints (plO O r.c)):=by rw[hvr];exact a4 r.c
     have rb4:(w3.drew.alloc (.cells #[.int .i64 k] 3)).cell? ⟨wr.heap.size,0,none⟩=some (.int .i64 r.c):=qk (w:=w3.drew) rb3 _;have rb5:(w3.alloc (.cells #[.int .i64 k] 3)).cell? ⟨wr.heap.size,0,none⟩=some (.int .i64 r.c):=qk rb3 _;obtain⟨i0,hi0,hz0,hz1,hz2⟩:=info_parts Tryz.xg;have hpl:(plO O r.c).length<=4160:=Nat.le_trans (qle O r.c) (by have:=HJ.out.2.2.2.2.1;omega);have hOm2:O.length < maxLen:=hOm;have HK:=lhd (aiq hmS3 (aiq s13 (aiq k23 (aiq hB3 (aiq a1 (aiq a2 (aiq a3 (aiq a4 (aiq a5 (aiq a6 hvr))))))))));have hvB:∀ b,vr.ownBlock=some b->b≠BM:=fun b e=>(a6 r.c b (by rw[<-hvr,e])).1
     have hvS:∀ b,vr.ownBlock=some b->b≠bs:=fun b e=>(a6 r.c b (by rw[<-hvr,e])).2
     have hvR:∀ b,vr.ownBlock=some b->b < wr.heap.size:=fun b e=>(hvlt r.c b (by rw[<-hvr,e])).2
     have HRB:=lhd rb3;clear hm3 hg3 hmS3 s13 k23 hB3 a1 a2 a3 a4 a5 a6 hvr hlkA rb0 s1R k2R a1R a4R hmS hvlt;go_upto_region 9 with fail
     go_region_law (first
      |(refine step_append_lies _ rfl _ _ 22 rfl base 3 i0 _ 1 8 Tryz.underlying22 hi0 hz0 hz1 hz2 rfl (by decide) _ _ _ rfl ((World.ownsRow.drew hrow).alloc _) ⟨w3.heap.size,0,none⟩ 1 1 [.int .i64 k] rfl rfl (q7l w3.drew 3 [.int .i64 k]) (q5v _) (by decide) (by unfold maxLen;omega) (by omega) (by simp;omega) _ rfl ?_;intro g2 cg w6 hown6 hgrow6 hat6 hlt6;have hm6:Mp Tryz.prog 3 w6 BM O.length g:=(Mp.alloc (w:=w3.drew) HK.out.2.2.2.2.1 _).kept hgrow6 (fun e=>hvB BM e.symm rfl);have rb6:w6.cell? ⟨wr.heap.size,0,none⟩=some (.int .i64 r.c):=ql hgrow6 (qk (w:=w3.drew) HRB.out _) (fun kk h=>by have:=hvR kk h;show wr.heap.size≠kk;omega);have F6:=lhd (aiq hown6 (aiq hgrow6 (aiq hat6 hlt6)));obtain⟨w7,hset,hm7,hg7⟩:=Mp.set hm6 Tryz.underlying3 Tryz.underlying215 hOm2 hkr (.slice (some ⟨g2,0,none⟩) ((plO O r.c).length+1) cg);have F7:=lhd (aiq hm7 hg7);clear hown6 hgrow6 hat6 hlt6 hm7 hg7))
     all_goals
      go_wp2;go_roundw
      case measure=>simp[vI];omega
      case rel =>
       obtain⟨hown6,hgrow6',hat6,hlt6⟩:=F6.out;have hgrow6:(w3.drew.alloc (.cells #[.int .i64 k] 3)).grownBy w6 vr.ownBlock:=hgrow6';obtain⟨hm7,hg7⟩:=F7.out;obtain⟨b1,b2,b3,b4,b5,b6,b7,b8,b9,b10,b11⟩:=HK.out;have hwA:Below w3.heap.size w3 (w3.drew.alloc (.cells #[.int .i64 k] 3)):=(qb (Below.refl _ w3) 1).alloc (nlr _) _;have hgr:(w3.drew.alloc (.cells #[.int .i64 k] 3)).grownBy w6 (vm r.c).ownBlock:=by rw[<-b11];exact hgrow6
       have hbase:∀ kk,vr.ownBlock=some kk->base<=kk:=fun kk h=>(hrow.lt kk h).1
       have hz6:=hgrow6.size;have hzA:(w3.drew.alloc (.cells #[.int .i64 k] 3)).heap.size=w3.heap.size+1:=World.size_alloc _ _;have hz7:=hg7.size;rw[hzA] at hz6;have hfar:∀ p:Addr,∀ u,p.block < base->p.block≠BM->w3.cell? p=some u->w7.cell? p=some u:=fun p u hp hpm hu=>ql hg7 (ql hgrow6 (Cx.q8 hwA hu) (fun kk h=>by have:=hbase kk h;omega)) (fun kk e=>by cases e;exact hpm)
       have hR7:Rws w7 base BM (fun b=>b=bs) (O.length+1) (q1r (plO O) r.c k):=Rws.app b5 b6 b7 b8 b9 b10 (fun b h=>by subst h;omega) r.c k hwA g2 cg _ hgr hown6 (by rw[<-b11];rcases hat6 with h | h;exact .inl h;exact .inr h) hm7 hg7;have hS7:MpI w7 BU (O.length+1) (pu (q0c O) r.c (S+pr)):=by
        obtain⟨gg,c1,c2⟩:=b1;exact⟨gg,((c1.q8 hwA).kept hgrow6 (fun e=>by have:=hbase BU e.symm;omega)).kept hg7 (fun e=>by cases e;omega),c2⟩
       have hB7:Below w.heap.size w w7:=((b4.trans (hwA.mono b4.size)).grown hgrow6 (by have:=b4.size;rw[hzA];omega) (fun kk h=>by have:=hbase kk h;omega)).grown hg7 (by have:=b4.size;omega) (fun kk e=>by cases e;omega);have e1:=HJ.out.2.2.1;refine⟨jj+1,qh (by omega),by omega,?_,?_,hB7,hfar ⟨bx,2,none⟩ _ (by show bx < base;omega) (by show bx≠BM;omega) b3,?_,by omega⟩
       ·rw[e1,qfq,List.length_append,<-HJ.out.1];exact hS7
       ·rw[e1,qim,List.length_append];exact hR7
       ·exact ql hg7 (ql hgrow6 (Cx.q8 hwA b2) (fun kk h=>fun e=>hvS kk h e.symm)) (fun kk e=>by cases e;show bs≠BM;omega)
    ·have hje:(oF (qx m) x.cl k).take jj=oF (qx m) x.cl k:=List.take_of_length_le (by rw[HY.out.2.1,List.length_map,HZN.out];omega);have hOk:O=q1k (qx m) x.cl (k+1):=by rw[HO.out,hje,q80]
     rw[hOk] at mS mM;have mM':=mM.qb1 (Av':=fun _=>False) (fun b h=>h.elim);have HJ:=lhd (aiq mS mM');clear hje hOk mS mM mM';go_wp2_with fail;go_roundw
     case measure=>simp[vI];omega
     case rel=>exact⟨k+1,qh (by omega),by omega,HJ.out.1,HJ.out.2,HB2.out,k2,hzr2⟩
  ·have hke:q1k (qx m) x.cl k=occ (qx m) x.cl:=by
    rw[<-qb2]
    congr 1
    have:=HX.out.2.2.2;show k=x.s.length;omega
   rw[hke] at mS mM;clear hke;have hbU:BU < wr.heap.size:=mS.lt;obtain⟨gS,hmS,hgS⟩:=mS;obtain⟨D,hown,hD⟩:=hmS;have hKd:=int_keyed (P:=Tryz.prog) (k:=3) Tryz.underlying3;obtain⟨o,ho⟩ : ∃ o,o=occ (qx m) x.cl:=⟨_,rfl⟩
   rw[<-ho] at hgS hown mM;have HO:=lhd ho;have HGS:=lhd hgS;obtain⟨no,hno⟩ : ∃ no,no=o.length:=⟨_,rfl⟩
   rw[<-hno] at hown mM;have HNO:=lhd hno;have hnol:no<=4096:=by
    rw[hno,ho,<-qb2];have:=qb3 (x:=x.cl) HX.out.2.2.1 x.cl.s.length;have:x.cl.s.length<=64:=HX.out.1.1;omega
   clear ho hgS hno;go_wp2_with (first
    |(at_range;refine wpList_range_own _ rfl _ 122 rfl 3 3 hKd Tryz.underlying122 hld BU no D rfl hown ?_;intro wq hrg0 hg0 hs0)
    | go_in)
   go_frame
   obtain⟨r,hr⟩ : ∃ r,r=wr.heap.size:=⟨_,rfl⟩
   rw[<-hr] at hrg0 ⊢;have hbr:base<=r:=by omega
   have hBq:Below wr.heap.size wr wq:=⟨hg0.os,hg0.tape,hg0.output,hg0.size,fun b hb=>hg0.block b hb (by simp)⟩
   have mMq:=(mM.q8 hBq).qb1 (Av':=fun _=>False) (fun b h=>h.elim);have mMr:Rws wq base BM (fun b=>b=r) no (plO o):=(mM.qb1 (Av':=fun b=>b=r) (fun b h=>.inl (by omega))).q8 hBq;have kq2:=Cx.q8 hBq k2;have HBq:=lhd (HB.out.trans (hBq.mono HB.out.size));have HD0:Hid (Hg D gS):=hD;have hzq:base<=wq.heap.size:=Nat.le_trans hzr hBq.size;clear hr mM k2 hBq hown hD hg0 hs0 mMq HB;go_loopw [12] (fun _ wr=>∃ (left:Lit->Bool) (cnt:Nat),wr.ranges Tryz.prog 3 hld BU r no D left cnt/\Hid (∀ c,(gS c).isSome=true->left (.int .i64 c)=false->q0c o c=0)/\Rws wr base BM (fun b=>b=r) no (plO o)/\Hid (Below w.heap.size w wr)/\wr.cell? ⟨bx,2,none⟩=some (.slice x.a x.n x.c)/\base<=wr.heap.size) (fun _ wr=>wr.rangeLeft BU r)
   case atStart=>exact⟨_,_,hrg0,(show Hid _ from fun c hc hl=>by have:=(HD0.out c).1;rw[hl,hc] at this;cases this),mMr,HBq.out,kq2,hzq⟩
   case round =>
    clear hrg0 mMr kq2 hzq;obtain⟨left,cnt,hrg,HF,mM,HB,k2,hzr⟩:=hrel;have HRG:=lhd hrg;go_wp2_with (first
     |(at_next;refine wpList_next_ranges _ rfl _ rfl 3 hKd hld (Value.int .i64) (fun v:Value=>v) (fun key kl hkey=>by obtain⟨x,rfl,_⟩:=Maps.keyOf_int_inv Tryz.underlying3 hkey;exact⟨x,rfl⟩) (fun v y _=>⟨v,rfl⟩) BU r no D left cnt rfl hrg ?_ ?_)
     | go_in)
    ·intro hc0 hl0;have hall:∀ c,q0c o c=0:=fun c=>by
      cases hg:gS c with
      | some v=>exact HF.out c (by rw[hg];rfl) (hl0 _)
      | none =>
       have:=HGS.out c;rw[hg] at this;have h2:Value.int .i64 0 = .int .i64 (q0c o c):=this;injection h2 with _ h2
       exact h2.symm
     have HALL:=lhd hall;have mM':=mM.qb1 (Av':=fun _=>False) (fun b h=>h.elim);clear hc0 hl0 hall mM hrg;obtain⟨g,vm,a1,a2,a3,a4,a5,a6⟩:=mM';obtain⟨W4,hW4⟩ : ∃ W4,W4=(wr.alloc (.map #[] 0)).alloc (.cells #[.map (some wr.heap.size)] 215):=⟨_,rfl⟩
     have hB4:Below wr.heap.size wr W4:=by rw[hW4];exact((Below.refl _ wr).alloc (nlr _) _).alloc (by simp) _
     have hz4:W4.heap.size=wr.heap.size+2:=by rw[hW4];simp
     have j0:W4.cell? ⟨wr.heap.size+1,0,none⟩=some (.map (some wr.heap.size)):=by
      rw[hW4];have:=qd (wr.alloc (.map #[] 0)) #[.map (some wr.heap.size)] 215 (0,0) 0;rw[World.size_alloc] at this;exact this
     have mJ:Rws W4 (wr.heap.size+3) wr.heap.size (fun _=>False) 0 (fun _=>[]):=by
      rw[hW4];exact(Rws.made wr (wr.heap.size+3) (fun _=>False)).q8 ((Below.refl _ _).alloc (nlr _) _)
     obtain⟨D4,hown4,hD4⟩:=a1.q8 hB4;have hBMl:BM < wr.heap.size:=a1.lt;have HA:=lhd (aiq a2 (aiq a3 (aiq a4 (aiq a5 (aiq a6 hB4)))));have k24:=Cx.q8 hB4 k2;have HB4:=lhd (HB.out.trans (hB4.mono HB.out.size));have HZ4:=lhd hz4;clear a1 a2 a3 a4 a5 a6 hB4 k2 HB hz4;go_wp2_with (first
      |(at_range;rw[<-hW4];clear hW4;refine wpList_range_own _ rfl _ 215 rfl 3 22 hKd Tryz.underlying215 hld BM no D4 rfl hown4 ?_;intro wq4 hrg4 hg4 hs4)
      | go_in)
     try go_frame
     have hz4:=HZ4.out;obtain⟨BJ,hBJ⟩ : ∃ b,b=wr.heap.size:=⟨_,rfl⟩
     obtain⟨pJ,hpJ⟩ : ∃ b,b=wr.heap.size+1:=⟨_,rfl⟩
     obtain⟨r4,hr4⟩ : ∃ b,b=W4.heap.size:=⟨_,rfl⟩
     obtain⟨base2,hbase2⟩ : ∃ b,b=wr.heap.size+3:=⟨_,rfl⟩
     rw[<-hbase2] at mJ;rw[<-hpJ] at j0 ⊢;rw[<-hBJ] at j0 mJ;rw[<-hr4] at hrg4 ⊢;have hG4:Gs (fun _=>False) W4 wq4:=(Gs.refl _ W4).grown hg4 (fun k e=>by cases e);have hB4q:Below W4.heap.size W4 wq4:=⟨hg4.os,hg4.tape,hg4.output,hg4.size,fun b hb=>hg4.block b hb (by simp)⟩
     have mJq:=mJ.q8 hB4q;have j0q:=Cx.q8 hB4q j0;have k2q:=Cx.q8 hB4q k24;have HBq4:=lhd (HB4.out.trans (hB4q.mono HB4.out.size));have hord4:base<=BJ/\BJ < pJ/\pJ < r4/\r4 < base2/\base2<=wq4.heap.size/\BM < BJ:=by omega
     have HD4:Hid (Hg D4 g):=hD4;have HOLD:=lhd (aiq HA.out (aiq hB4q (aiq hBJ hr4)));have hszD:=hown4.size_le;clear hr4 hBJ hpJ hbase2 mJ j0 k24 hown4 hD4 hg4 hs4 hz4 HA HB4 hB4q hG4 hBMl;go_loopw [15] (fun _ wr=>∃ (left:Lit->Bool) (cnt nn:Nat) (jl:Int->List Int),wr.ranges Tryz.prog 3 hld BM r4 no D4 left cnt/\Rws wr base2 BJ (fun _=>False) nn jl/\nn+2*cnt<=2*no/\Hid (∀ i,(jl i).length<=nn) ∧
      Hid (∀ i k,k∈jl i↔∃ c,(g c).isSome=true/\left (.int .i64 c)=false/\(plO o c=[i,k]\/plO o c=[k,i]))/\Hid (∀ c,(g c).isSome=true->left (.int .i64 c)=false->(plO o c).length=2)/\Gs (fun b=>b=BJ\/b=r4\/base2<=b) wq4 wr) (fun _ wr=>wr.rangeLeft BM r4)
     case atStart =>
      refine⟨_,_,0,fun _=>[],hrg4,mJq,by omega,(show Hid _ from fun i=>nlr _),(show Hid _ from fun i k=>⟨(fun h=>by cases h),fun ⟨c,h1,h2,_⟩=>?_⟩),(show Hid _ from fun c h1 h2=>?_),Gs.refl _ _⟩
      ·have:=(HD4.out c).1;rw[h1,h2] at this;cases this
      ·have:=(HD4.out c).1;rw[h1,h2] at this;cases this
     case round =>
      clear hrg4 mJq;obtain⟨left,cnt,nn,jl,hrg,mJ,hnn,HLE,HMEM,HTWO,hG⟩:=hrel;have HRG4:=lhd hrg;go_wp2_with (first
       |(at_next;refine wpList_next_ranges _ rfl _ rfl 3 hKd hld (Value.int .i64) (fun v:Value=>v) (fun key kl hkey=>by obtain⟨x,rfl,_⟩:=Maps.keyOf_int_inv Tryz.underlying3 hkey;exact⟨x,rfl⟩) (fun v y _=>⟨v,rfl⟩) BM r4 no D4 left cnt rfl hrg ?_ ?_)
       | go_in)
      ·intro hc0 hl0;go_wp2_with fail;obtain⟨W5,hW5⟩ : ∃ W,W=((wr.alloc (.map #[] 0)).alloc (.cells #[.map (some wr.heap.size)] 65)).alloc (.cells #[.nilFunc] 216):=⟨_,rfl⟩
       rw[<-hW5];have hbwr:base2<=wr.heap.size:=Nat.le_trans hord4.2.2.2.2.1 hG.size;have k1:W5.cell? ⟨wr.heap.size+1,0,none⟩=some (.map (some wr.heap.size)):=by
        rw[hW5];have:=qd (wr.alloc (.map #[] 0)) #[.map (some wr.heap.size)] 65 (0,0) 0;simp only [World.size_alloc] at this;exact qk this _
       have k3:W5.cell? ⟨wr.heap.size+1+1,0,none⟩=some .nilFunc:=by
        rw[hW5];have:=qd ((wr.alloc (.map #[] 0)).alloc (.cells #[.map (some wr.heap.size)] 65)) #[.nilFunc] 216 (0,0) 0;simp only [World.size_alloc] at this;exact this
       have f3:W5.frozen? ⟨wr.heap.size+1+1,0,none⟩=false:=by
        rw[hW5];have:=jz (heap_alloc_new ((wr.alloc (.map #[] 0)).alloc (.cells #[.map (some wr.heap.size)] 65)) (.cells #[.nilFunc] 216)) 0;simp only [World.size_alloc] at this;exact this
       have kS:Mp Tryz.prog 3 W5 wr.heap.size 0 (sG (fun _=>false)):=by
        rw[hW5];have h:Mp Tryz.prog 3 (wr.alloc (.map #[] 0)) wr.heap.size 0 (sG (fun _=>false)):=by
         have:=Mp.made (P:=Tryz.prog) (k:=3) wr;have e:(fun _=>none)=sG (fun _=>false):=by funext c;simp[sG]
         rw[<-e];exact this
        exact Mp.alloc (Mp.alloc h _) _
       have hB5:Below wr.heap.size wr W5:=by
        rw[hW5];exact(((Below.refl _ wr).alloc (nlr _) _).alloc (by simp) _).alloc (by simp;omega) _
       have j25:W5.cell? ⟨pJ,0,none⟩=some (.map (some BJ)):=Cx.q8 hB5 (hG.cell (show ¬ (pJ=BJ\/pJ=r4\/base2<=pJ) from by omega) j0q);have x25:W5.cell? ⟨bx,2,none⟩=some (.slice x.a x.n x.c):=Cx.q8 hB5 (hG.cell (show ¬ (bx=BJ\/bx=r4\/base2<=bx) from by omega) k2q);obtain⟨SE,hSE⟩ : ∃ p,p=wr.heap.size:=⟨_,rfl⟩
       obtain⟨p1,hp1⟩ : ∃ p,p=wr.heap.size+1:=⟨_,rfl⟩
       obtain⟨p3,hp3⟩ : ∃ p,p=wr.heap.size+1+1:=⟨_,rfl⟩
       rw[<-hp3] at k3 f3 ⊢;rw[<-hp1] at k1 ⊢;rw[<-hSE] at k1 kS;have hne:wr.heap.size<=SE/\SE < p1/\p1 < p3/\pJ < SE/\bx < SE:=by omega
       obtain⟨fv,hfv⟩ : ∃ fv,fv=Value.func (.func 197) #[] #[.pointer (some ⟨p1,0,none⟩),.pointer (some ⟨pJ,0,none⟩),.pointer (some ⟨p3,0,none⟩)]:=⟨_,rfl⟩
       have hst:(store ⟨p3,0,none⟩ (Value.func (.func 197) #[] #[.pointer (some ⟨p1,0,none⟩),.pointer (some ⟨pJ,0,none⟩),.pointer (some ⟨p3,0,none⟩)])).run Tryz.prog W5 = .ok () (W5.setCell ⟨p3,0,none⟩ fv):=by
        rw[hfv,run_store _ _ _ _ _ rfl,k3,f3];rfl
       obtain⟨V,hV⟩ : ∃ V,V=W5.setCell ⟨p3,0,none⟩ fv:=⟨_,rfl⟩
       rw[<-hV] at hst;have v1:V.cell? ⟨p1,0,none⟩=some (.map (some SE)):=by rw[hV];exact xe k1 (by show p1≠p3;omega)
       have v2:V.cell? ⟨pJ,0,none⟩=some (.map (some BJ)):=by rw[hV];exact xe j25 (by show pJ≠p3;omega)
       have vx:V.cell? ⟨bx,2,none⟩=some (.slice x.a x.n x.c):=by rw[hV];exact xe x25 (by show bx≠p3;omega)
       have v3:V.cell? ⟨p3,0,none⟩=some (Value.func (.func 197) #[] #[.pointer (some ⟨p1,0,none⟩),.pointer (some ⟨pJ,0,none⟩),.pointer (some ⟨p3,0,none⟩)]):=by
        rw[hV,hfv];exact World.cell?_setCell_same' _ _ _ (by rw[k3];rfl)
       have hBV:Below wr.heap.size wr V:=by rw[hV];exact hB5.setCell (show wr.heap.size<=p3 by omega) _
       have hSV:Mp Tryz.prog 3 V SE 0 (sG (fun _=>false)):=by rw[hV];exact kS.setCell (by show SE≠p3;omega) _
       have hvis:Vj wr V BJ SE p1 pJ p3:=⟨hBV,by omega,⟨by omega,by omega,by omega⟩,v1,v2,v3⟩
       have hBr:Below w.heap.size w wr:=HBq4.out.trans (hG.below HBq4.out.size (fun b hb=>by have:=HBq4.out;rcases hb with h | h | h <;> omega));obtain⟨gj,vj,a1,a2,a3,a4,a5,a6⟩:=mJ;obtain⟨⟨hx64,hxs⟩,hx0,hT,hxl⟩:=HX.out;have hJm:∀ i k,k∈jl i↔∃ c,plO o c=[i,k]\/plO o c=[k,i]:=fun i k=>by
        rw[HMEM.out i k];constructor
        ·rintro ⟨c,_,_,h⟩;exact⟨c,h⟩
        ·rintro ⟨c,h⟩;exact⟨c,(HOLD.out.1.2.1 c).2 (by rcases h with h | h <;> rw[h] <;> simp),hl0 _,h⟩
       have hJ2:∀ c,plO o c≠[]->(plO o c).length=2:=fun c h=>HTWO.out c ((HOLD.out.1.2.1 c).2 h) (hl0 _)
       have hcall:=qld a1 a2 (fun i=>Sl.qc (a4 i)) (fun i=>by have:=HLE.out i;omega) ((List.range x.s.length).map fun k:Nat=>(k:Int)) (fun i _ k hk=>by
         obtain⟨c,h⟩:=(hJm i k).1 hk;obtain⟨k',rfl,hk'⟩:=q9a (T:=qx m) (x:=x.cl) (c:=c) (i:=k) (by rw[<-HO.out];rcases h with h | h <;> rw[h] <;> simp);exact List.mem_map.2 ⟨k',List.mem_range.2 hk',rfl⟩)
        (fun i hi=>by obtain⟨k',hk',rfl⟩:=List.mem_map.1 hi;have:=List.mem_range.1 hk';unfold I64;omega) (-1) (fun h=>by obtain⟨k',_,e⟩:=List.mem_map.1 h;omega)
        SE p1 pJ p3 _ 0 0 (fun _=>false) V (nlr _) hvis hSV (List.mem_map.2 ⟨0,List.mem_range.2 hx0,rfl⟩) (by
         have h:mu ((List.range x.s.length).map fun k:Nat=>(k:Int)) (fun _=>false)<=((List.range x.s.length).map fun k:Nat=>(k:Int)).length:=List.length_filter_le _ _;have h2:((List.range x.s.length).map fun k:Nat=>(k:Int)).length=x.s.length:=by simp
         omega)
       have HC:=lhd hcall;have HV:=lhd (aiq hBr (aiq hBV (aiq hne (aiq hJm (aiq hJ2 (aiq hx0 (aiq hxl hvis)))))));have HVX:=lhd vx;clear hW5 hp1 hp3 hSE k1 k3 f3 kS hB5 j25 x25 hcall hvis hSV hBV hV hfv hBr a1 a2 a3 a4 a5 a6 hx64 hxs hx0 hT hxl hJm hJ2 v1 v2 vx;rw[hst];go_wp2_with fail;refine HC.out.mono ?_;rintro e w5 ⟨rfl,hG5,k',seen',hS',hD',h0',hk',hr'⟩;obtain⟨hBr,hBV,hne2,hJm,hJ2,hx0,hxl,hvis⟩:=HV.out;obtain⟨L,hL1,hL2,hlen⟩:=qo5 hS';have hvis5:=hvis.gs hG5;have y1:w5.cell? ⟨p1,0,none⟩=some (.map (some SE)):=hvis5.c1;have y2:w5.cell? ⟨bx,2,none⟩=some (.slice x.a x.n x.c):=hG5.cell (show ¬ (bx=SE) from by omega) HVX.out;have hR:=qcn (T:=qx m) (x:=x.cl) HO.out HALL.out hJ2 hx0 (S:=fun d=>seen' d=true) hL1 hL2 h0' (J:=fun a b=>b∈jl a) hJm (fun d hd=>ka.reach (fun _ h=>by cases h) hD' h0' hd)
        (fun d hd=>(hr' d hd).elim (fun h=>by cases h) id)
       have hBf:Below w.heap.size w w5:=hBr.trans ((hBV.mono hBr.size).trans (hG5.below (Nat.le_trans hBr.size hBV.size) (fun b hb=>by rw[hb];have:=hBr.size;omega)));have HRES:=lhd (aiq hR (aiq hBf hxl));clear hS' hD' h0' hk' hr' hvis hvis5 hL1 hL2 hJm hJ2 hx0 hR hBf hBr hBV hG5;by_cases hLn:L.length=x.n
       ·have hq1:((L.length:Int) != (x.n:Int))=false:=by rw[hLn];simp
        have HLN:=lhd hLn;clear hLn hxl;go_wp2_with fail;go_ret;refine⟨?_,HRES.out.2.1⟩;rw[HRES.out.1.trans (if_pos (HLN.out.trans HRES.out.2.2.symm))];rfl
       ·have hq1:((L.length:Int) != (x.n:Int))=true:=by simp;omega
        have HLN:=lhd hLn;clear hLn hxl;go_wp2_with fail;go_ret;refine⟨?_,HRES.out.2.1⟩;rw[HRES.out.1.trans (if_neg (fun e=>HLN.out (e.trans HRES.out.2.2)))];rfl
      ·intro nx cv kl y1 y2 w2 cnt' hkey hlk hv hat hrg1 hlt hg1 hs1 hen;obtain⟨x',hxe,rfl,hxw⟩:=Maps.keyOf_int_inv Tryz.underlying3 hkey;have hxx:nx=x':=by injection hxe
       subst hxx;have hv2:y1 = .held cv:=by
        have:hld cv=some (.held cv,[]):=rfl;rw[this] at hv;injection hv with hv;injection hv with hv _;exact hv.symm
       subst hv2;have hgx:=HD4.out.qh3 hat;have hcv:cv=vm nx:=by have:=HOLD.out.1.1 nx;rw[hgx] at this;exact this
       subst hcv;have hG2:Gs (fun b=>b=BJ\/b=r4\/base2<=b) wq4 w2:=hG.grown hg1 (fun k e=>by cases e;exact .inr (.inr (.inl rfl)));have hrow:=HOLD.out.1.2.2.1 nx;have hrl:=fun b (h:(vm nx).ownBlock=some b)=>(hrow.lt b h).2
       have hs2:Sl w2 1 (vm nx) (ints (plO o nx)):=hG2.sl (((Sl.qc hrow).q8 HOLD.out.1.2.2.2.2.2).q8 HOLD.out.2.1) (fun ad n c e hne=>by
        have hlt:ad.block < BJ:=by rw[HOLD.out.2.2.1];exact qe6 (Sl.qc hrow) e hne
        intro h;rcases h with h | h | h <;> omega)
       have hne:plO o nx≠[]:=(HOLD.out.1.2.1 nx).1 (by rw[hgx];rfl);obtain⟨va,vn,vc,hve⟩:=qg hs2;have hadl0:∀ ad,va=some ad->ad.block < BJ:=fun ad e=>by
        rw[HOLD.out.2.2.1];exact qe6 (Sl.qc hrow) (by rw[hve,e]) (by
         obtain⟨y,ys,hy⟩:=List.exists_cons_of_ne_nil hne;rw[hy];exact fun h=>by cases h)
       rw[hve] at hs2 hen;have hvl:(plO o nx).length=vn:=by
        obtain⟨_,_,h3,_⟩:=hs2.open;rw[xl] at h3;omega
       have hen2:(Instr.entry (.pointer (some ⟨r4,0,none⟩))).run Tryz.prog w2 = .ok (.tuple #[.int .i64 nx,.slice va vn vc]) w2:=hen;have mJ2:Rws w2 base2 BJ (fun _=>False) nn jl:=mJ.grown hg1 (by omega) (by omega);have HR1:=lhd (aiq hrg1 (aiq hlt (aiq hgx (aiq hlk (aiq hvl hs2)))));clear hkey hlk hv hat hrg1 hlt hgx hxe hxw hen hrg hrow hrl hne hve hg1 hs1 hs2 mJ hG;by_cases hv2:vn=2
       ·subst hv2;obtain⟨aa,bb,hab⟩ : ∃ aa bb,plO o nx=[aa,bb]:=by
         have h:=HR1.out.2.2.2.2.1
         match hpl:plO o nx,h with
         | [a,b],_=>exact⟨a,b,rfl⟩
        obtain⟨_,_,_,h5,h6⟩:=HR1.out.2.2.2.2.2.open;obtain⟨ad,rfl⟩ : ∃ ad,va=some ad:=by
         cases va with
         | none=>have:=h5 rfl;omega
         | some ad=>exact⟨ad,rfl⟩
        have l00:w2.cell? (ad.add 0)=some (.int .i64 aa):=h6 ad rfl 0 _ (by rw[hab];rfl);have l1:w2.cell? ⟨ad.block,ad.off+1,none⟩=some (.int .i64 bb):=h6 ad rfl 1 _ (by rw[hab];rfl);clear h5 h6;go_upto_region 23 with fail;have hadl:ad.block < BJ:=hadl0 ad rfl;have l0:w2.cell? ad=some (.int .i64 aa):=by have:=l00;rwa [show ad.add 0=ad from by unfold Addr.add;rfl] at this
        have j2:w2.cell? ⟨pJ,0,none⟩=some (.map (some BJ)):=hG2.cell (show ¬ (pJ=BJ\/pJ=r4\/base2<=pJ) from by omega) j0q;have haI:I64 aa:=(qeb HO.out HX.out.1.1 (by rw[hab];simp))
        have hbI:I64 bb:=(qeb HO.out HX.out.1.1 (by rw[hab];simp))
        have hkaa:=yx haI;have hkbb:=yx hbI;have hjle:=HLE.out;have hnn2:nn+2<=2*no:=by have:=HR1.out.2.1;omega
        have hb2w:base2<=w2.heap.size:=Nat.le_trans hord4.2.2.2.2.1 hG2.size;obtain⟨i0,hi0,hz0,hz1,hz2⟩:=info_parts Tryz.xg;obtain⟨gA,vmA,a1A,a2A,a3A,a4A,a5A,a6A⟩:=mJ2;obtain⟨vrA,hvrA⟩ : ∃ vr,vr=vmA aa:=⟨_,rfl⟩
        have hlkA:∀ X:World,Mp Tryz.prog 3 X BJ (nn) gA->(Instr.lookup 215 (.map (some BJ)) (.int .i64 aa) false).run Tryz.prog X = .ok vrA X:=fun X hX=>by
         have:=hX.look Tryz.underlying3 Tryz.underlying215 (q42 X) hkaa;rw[this,a2A aa,hvrA]
        have hl1A:=hlkA w2.drew a1A;have hl2A:=hlkA (w2.drew.alloc (.cells #[.int .i64 bb] 3)) (Mp.alloc (w:=w2.drew) a1A _);have hl3A:=hlkA (w2.alloc (.cells #[.int .i64 bb] 3)).drew (Mp.alloc a1A _);have hrowA:w2.ownsRow base2 3 1 vrA (jl aa).length (ints (jl aa)):=by rw[hvrA];exact a4A aa
        have hvbA:∀ b,vrA.ownBlock=some b->base2<=b:=fun b h=>(hrowA.lt b h).1
        have q0A:(w2.alloc (.cells #[.int .i64 bb] 3)).cell? ad=some (.int .i64 aa):=qk l0 _;have q1A:(w2.alloc (.cells #[.int .i64 bb] 3)).cell? ⟨ad.block,ad.off+1,none⟩=some (.int .i64 bb):=qk l1 _;have qjA:(w2.alloc (.cells #[.int .i64 bb] 3)).cell? ⟨pJ,0,none⟩=some (.map (some BJ)):=qk j2 _;have hplA:(jl aa).length<=8192:=by have:=hjle aa;omega
        have hnmA:nn < maxLen:=by unfold maxLen;omega
        have HKA:=lhd (aiq a1A (aiq a2A (aiq a3A (aiq a4A (aiq a5A (aiq a6A (aiq hvrA (aiq l0 (aiq l1 j2)))))))));clear a2A a3A a4A a5A a6A hvrA hlkA
        go_cut [15] from 81 to 94 (fun p wx=>p=Value.slice (some ad) 2 vc/\Gs (fun b=>b=BJ\/base2<=b) w2 wx/\Rws wx base2 BJ (fun _=>False) (nn+1) (q1r jl aa bb))
        case first =>
         rename_i Jx Kx hJx hKx
         go_region_held_law (fun w'=>w'.cell? ⟨pJ,0,none⟩=some (.map (some BJ))/\w'.cell? ad=some (.int .i64 aa)/\w'.cell? ⟨ad.block,ad.off+1,none⟩=some (.int .i64 bb)) (first | exact⟨j2,l0,l1⟩ | exact⟨qk (w:=w2.drew) j2 _,qk (w:=w2.drew) l0 _,qk (w:=w2.drew) l1 _⟩ | exact⟨rj,r0,r1⟩ | exact⟨sj,s0,s1⟩) (first
          |(refine step_append_lies _ rfl _ _ 22 rfl base2 3 i0 _ 1 8 Tryz.underlying22 hi0 hz0 hz1 hz2 rfl (by decide) _ _ _ rfl ((World.ownsRow.drew hrowA).alloc _) ⟨w2.heap.size,0,none⟩ 1 1 [.int .i64 bb] rfl rfl (q7l w2.drew 3 [.int .i64 bb]) (q5v _) (by decide) (by unfold maxLen;omega) (by omega) (by simp;omega) _ rfl ?_;intro g2 cg w6 hown6 hgrow6 hat6 hlt6;have hm6:Mp Tryz.prog 3 w6 BJ (nn) gA:=(Mp.alloc (w:=w2.drew) HKA.out.1 _).kept hgrow6 (fun e=>by have:=hvbA BJ e.symm;omega);have r0:w6.cell? ad=some (.int .i64 aa):=ql hgrow6 (qk (w:=w2.drew) HKA.out.2.2.2.2.2.2.2.1 _) (fun kk h=>by have:=hvbA kk h;omega);have r1:w6.cell? ⟨ad.block,ad.off+1,none⟩=some (.int .i64 bb):=ql hgrow6 (qk (w:=w2.drew) HKA.out.2.2.2.2.2.2.2.2.1 _) (fun kk h=>by have:=hvbA kk h;show ad.block≠kk;omega);have rj:w6.cell? ⟨pJ,0,none⟩=some (.map (some BJ)):=ql hgrow6 (qk (w:=w2.drew) HKA.out.2.2.2.2.2.2.2.2.2 _) (fun kk h=>by have:=hvbA kk h;show pJ≠kk;omega);have F6:=lhd (aiq hown6 (aiq hgrow6 (aiq hat6 hlt6)));obtain⟨w7,hset,hm7,hg7⟩:=Mp.set hm6 Tryz.underlying3 Tryz.underlying215 hnmA hkaa (.slice (some ⟨g2,0,none⟩) ((jl aa).length+1) cg);have s0:w7.cell? ad=some (.int .i64 aa):=ql hg7 r0 (fun kk h=>by cases h;show ad.block≠BJ;omega);have s1:w7.cell? ⟨ad.block,ad.off+1,none⟩=some (.int .i64 bb):=ql hg7 r1 (fun kk h=>by cases h;show ad.block≠BJ;omega);have sj:w7.cell? ⟨pJ,0,none⟩=some (.map (some BJ)):=ql hg7 rj (fun kk h=>by cases h;show pJ≠BJ;omega);have F7:=lhd (aiq hm7 hg7);clear hown6 hgrow6 hat6 hlt6 hm7 hg7))
         all_goals
          ((try go_step);refine hKx _ _ (Met.intro ?_);refine hJx _ _ ?_;(repeat apply Exists.intro);refine⟨?rel,rfl⟩)
          case rel =>
           obtain⟨hown6,hgrow6',hat6,hlt6⟩:=F6.out;have hgrow6:(w2.drew.alloc (.cells #[.int .i64 bb] 3)).grownBy w6 vrA.ownBlock:=hgrow6';obtain⟨hm7,hg7⟩:=F7.out;obtain⟨b5,b6,b7,b8,b9,b10,b11,_⟩:=HKA.out;have hwA:Below w2.heap.size w2 (w2.drew.alloc (.cells #[.int .i64 bb] 3)):=(qb (Below.refl _ w2) 1).alloc (nlr _) _;have hgr:(w2.drew.alloc (.cells #[.int .i64 bb] 3)).grownBy w6 (vmA aa).ownBlock:=by rw[<-b11];exact hgrow6
           exact⟨rfl,((Gs.xh hwA).grown hgrow6 (fun kk h=>.inr (.inr (hvbA kk h)))).grown hg7 (fun kk e=>by cases e;exact .inr (.inl rfl)),Rws.app b5 b6 b7 b8 b9 b10 (fun b h=>h.elim) aa bb hwA g2 cg _ hgr hown6 (by rw[<-b11];rcases hat6 with h | h;exact .inl h;exact .inr h) hm7 hg7⟩
        case rest =>
         obtain⟨rfl,hGa,mJ3⟩:=hcut;go_upto_region 24 with fail;have hOK:¬ (ad.block=BJ\/base2<=ad.block):=by omega
         have hPK:¬ (pJ=BJ\/base2<=pJ):=by omega
         have l0c:wc.cell? ad=some (.int .i64 aa):=hGa.cell hOK l0;have l1c:wc.cell? ⟨ad.block,ad.off+1,none⟩=some (.int .i64 bb):=hGa.cell (show ¬ (ad.block=BJ\/base2<=ad.block) from hOK) l1;have j2c:wc.cell? ⟨pJ,0,none⟩=some (.map (some BJ)):=hGa.cell (show ¬ (pJ=BJ\/base2<=pJ) from hPK) j2;have hjle2:∀ i,(q1r jl aa bb i).length<=nn+1:=qb4 hjle aa bb;have hb2c:base2<=wc.heap.size:=Nat.le_trans hb2w hGa.size;clear l0 l1 j2;have l0:=l0c;have l1:=l1c;have j2:=j2c;clear l0c l1c j2c hjle;have hjle:=hjle2;clear hjle2;obtain⟨gB,vmB,a1B,a2B,a3B,a4B,a5B,a6B⟩:=mJ3;obtain⟨vrB,hvrB⟩ : ∃ vr,vr=vmB bb:=⟨_,rfl⟩
         have hlkB:∀ X:World,Mp Tryz.prog 3 X BJ ((nn+1)) gB->(Instr.lookup 215 (.map (some BJ)) (.int .i64 bb) false).run Tryz.prog X = .ok vrB X:=fun X hX=>by
          have:=hX.look Tryz.underlying3 Tryz.underlying215 (q42 X) hkbb;rw[this,a2B bb,hvrB]
         have hl1B:=hlkB wc.drew a1B;have hl2B:=hlkB (wc.drew.alloc (.cells #[.int .i64 aa] 3)) (Mp.alloc (w:=wc.drew) a1B _);have hl3B:=hlkB (wc.alloc (.cells #[.int .i64 aa] 3)).drew (Mp.alloc a1B _);have hrowB:wc.ownsRow base2 3 1 vrB ((q1r jl aa bb) bb).length (ints ((q1r jl aa bb) bb)):=by rw[hvrB];exact a4B bb
         have hvbB:∀ b,vrB.ownBlock=some b->base2<=b:=fun b h=>(hrowB.lt b h).1
         have q0B:(wc.alloc (.cells #[.int .i64 aa] 3)).cell? ad=some (.int .i64 aa):=qk l0 _;have q1B:(wc.alloc (.cells #[.int .i64 aa] 3)).cell? ⟨ad.block,ad.off+1,none⟩=some (.int .i64 bb):=qk l1 _;have qjB:(wc.alloc (.cells #[.int .i64 aa] 3)).cell? ⟨pJ,0,none⟩=some (.map (some BJ)):=qk j2 _;have hplB:((q1r jl aa bb) bb).length<=8192:=by have:=hjle bb;omega
         have hnmB:(nn+1) < maxLen:=by unfold maxLen;omega
         have HKB:=lhd (aiq a1B (aiq a2B (aiq a3B (aiq a4B (aiq a5B (aiq a6B (aiq hvrB (aiq l0 (aiq l1 j2)))))))));clear a2B a3B a4B a5B a6B hvrB hlkB
         go_region_held_law (fun w'=>w'.cell? ⟨pJ,0,none⟩=some (.map (some BJ))/\w'.cell? ad=some (.int .i64 aa)/\w'.cell? ⟨ad.block,ad.off+1,none⟩=some (.int .i64 bb)) (first | exact⟨j2,l0,l1⟩ | exact⟨qk (w:=wc.drew) j2 _,qk (w:=wc.drew) l0 _,qk (w:=wc.drew) l1 _⟩ | exact⟨rj,r0,r1⟩ | exact⟨sj,s0,s1⟩) (first
          |(refine step_append_lies _ rfl _ _ 22 rfl base2 3 i0 _ 1 8 Tryz.underlying22 hi0 hz0 hz1 hz2 rfl (by decide) _ _ _ rfl ((World.ownsRow.drew hrowB).alloc _) ⟨wc.heap.size,0,none⟩ 1 1 [.int .i64 aa] rfl rfl (q7l wc.drew 3 [.int .i64 aa]) (q5v _) (by decide) (by unfold maxLen;omega) (by omega) (by simp;omega) _ rfl ?_;intro g2 cg w6 hown6 hgrow6 hat6 hlt6;have hm6:Mp Tryz.prog 3 w6 BJ ((nn+1)) gB:=(Mp.alloc (w:=wc.drew) HKB.out.1 _).kept hgrow6 (fun e=>by have:=hvbB BJ e.symm;omega);have r0:w6.cell? ad=some (.int .i64 aa):=ql hgrow6 (qk (w:=wc.drew) HKB.out.2.2.2.2.2.2.2.1 _) (fun kk h=>by have:=hvbB kk h;omega);have r1:w6.cell? ⟨ad.block,ad.off+1,none⟩=some (.int .i64 bb):=ql hgrow6 (qk (w:=wc.drew) HKB.out.2.2.2.2.2.2.2.2.1 _) (fun kk h=>by have:=hvbB kk h;show ad.block≠kk;omega);have rj:w6.cell? ⟨pJ,0,none⟩=some (.map (some BJ)):=ql hgrow6 (qk (w:=wc.drew) HKB.out.2.2.2.2.2.2.2.2.2 _) (fun kk h=>by have:=hvbB kk h;show pJ≠kk;omega);have F6:=lhd (aiq hown6 (aiq hgrow6 (aiq hat6 hlt6)));obtain⟨w7,hset,hm7,hg7⟩:=Mp.set hm6 Tryz.underlying3 Tryz.underlying215 hnmB hkbb (.slice (some ⟨g2,0,none⟩) (((q1r jl aa bb) bb).length+1) cg);have s0:w7.cell? ad=some (.int .i64 aa):=ql hg7 r0 (fun kk h=>by cases h;show ad.block≠BJ;omega);have s1:w7.cell? ⟨ad.block,ad.off+1,none⟩=some (.int .i64 bb):=ql hg7 r1 (fun kk h=>by cases h;show ad.block≠BJ;omega);have sj:w7.cell? ⟨pJ,0,none⟩=some (.map (some BJ)):=ql hg7 rj (fun kk h=>by cases h;show pJ≠BJ;omega);have F7:=lhd (aiq hm7 hg7);clear hown6 hgrow6 hat6 hlt6 hm7 hg7))
         all_goals
          obtain⟨hown6,hgrow6',hat6,hlt6⟩:=F6.out;have hgrow6:(wc.drew.alloc (.cells #[.int .i64 aa] 3)).grownBy w6 vrB.ownBlock:=hgrow6';obtain⟨hm7,hg7⟩:=F7.out;obtain⟨b5,b6,b7,b8,b9,b10,b11,_⟩:=HKB.out;have hwA:Below wc.heap.size wc (wc.drew.alloc (.cells #[.int .i64 aa] 3)):=(qb (Below.refl _ wc) 1).alloc (nlr _) _;have hgr:(wc.drew.alloc (.cells #[.int .i64 aa] 3)).grownBy w6 (vmB bb).ownBlock:=by rw[<-b11];exact hgrow6
          have hGb:Gs (fun b=>b=BJ\/base2<=b) wc w7:=((Gs.xh hwA).grown hgrow6 (fun kk h=>.inr (.inr (hvbB kk h)))).grown hg7 (fun kk e=>by cases e;exact .inr (.inl rfl));have mJ4:Rws w7 base2 BJ (fun _=>False) (nn+1+1) (q1r (q1r jl aa bb) bb aa):=Rws.app b5 b6 b7 b8 b9 b10 (fun b h=>h.elim) bb aa hwA g2 cg _ hgr hown6 (by rw[<-b11];rcases hat6 with h | h;exact .inl h;exact .inr h) hm7 hg7;have hGc:Gs (fun b=>b=BJ\/b=r4\/base2<=b) wq4 w7:=(hG2.trans (hGa.mono (fun b _ h=>h.elim .inl (fun h=>.inr (.inr h))))).trans (hGb.mono (fun b _ h=>h.elim .inl (fun h=>.inr (.inr h))));have hrgc:=q81 hGb (q81 hGa HR1.out.1 (by omega) (by omega)) (by omega) (by omega);have HRGC:=lhd (aiq hrgc hGc);clear hrgc hGc;go_wp2_with fail;go_roundw
          case measure=>rw[HRGC.out.1.left_eq,HRG4.out.left_eq];exact HR1.out.2.1
          case rel =>
           refine⟨_,_,nn+2,_,HRGC.out.1,mJ4,by have:=HR1.out.2.1;omega,(show Hid _ from qb4 hjle bb aa),(show Hid _ from fun i k=>?_),(show Hid _ from fun c hc hl=>?_),HRGC.out.2⟩
           ·rw[qb5,qb5,HMEM.out i k];constructor
            ·rintro ((⟨c,hc,hl,h⟩ | ⟨rfl,rfl⟩) | ⟨rfl,rfl⟩)
             ·exact⟨c,hc,by rw[hl];rfl,h⟩
             ·exact⟨nx,by rw[HR1.out.2.2.1];rfl,by rw[q82];simp,.inl hab⟩
             ·exact⟨nx,by rw[HR1.out.2.2.1];rfl,by rw[q82];simp,.inr hab⟩
            ·rintro ⟨c,hc,hl,h⟩;by_cases hcn:c=nx
             ·subst hcn;rw[hab] at h;rcases h with h | h
              ·injection h with e1 h;injection h with e2 _;subst e1 e2;exact .inl (.inr ⟨rfl,rfl⟩)
              ·injection h with e1 h;injection h with e2 _;subst e1 e2;exact .inr ⟨rfl,rfl⟩
             ·exact .inl (.inl ⟨c,hc,qea hl hcn,h⟩)
           ·by_cases hcn:c=nx
            ·subst hcn;rw[hab];rfl
            ·exact HTWO.out c hc (qea hl hcn)
       ·have hn1:((vn:Int) != 2)=true:=by simp;omega
        have hn2:((vn:Int) == 2)=false:=by simp;omega
        have hE:yi (qx m) x.cl=25:=by
         have hpl:plO o nx≠[]:=fun e=>by
          have:=(HOLD.out.1.2.1 nx).1 (by rw[HR1.out.2.2.1];rfl);exact this e
         have h3:(occAt o nx).length=vn:=by rw[<-HR1.out.2.2.2.2.1];unfold plO;rw[List.length_map]
         have h2:occAt o nx≠[]:=fun e=>hpl (by unfold plO;rw[e];rfl)
         obtain⟨p,hp⟩:=List.exists_mem_of_ne_nil _ h2;have hp':=List.mem_filter.1 hp;have hpn:p.1=nx:=by simpa using hp'.2
         unfold yi;rw[<-HO.out,if_neg (fun ⟨q,_,hq⟩=>hq (HALL.out q.1)),if_pos ⟨p,hp'.1,by rw[hpn,h3];exact hv2⟩]
        have HE:=lhd hE;have hBf:Below w.heap.size w w2:=HBq4.out.trans (hG2.below HBq4.out.size (fun b hb=>by have:=HBq4.out;rcases hb with h | h | h <;> omega));have HBF:=lhd hBf;clear hE hv2 hBf;go_wp2_with fail;go_ret;exact⟨by rw[HE.out];rfl,HBF.out⟩
    ·intro nx cv kl y1 y2 w2 cnt' hkey hlk hv hat hrg1 hlt hg1 hs1 hen;obtain⟨x',hxe,rfl,hxw⟩:=Maps.keyOf_int_inv Tryz.underlying3 hkey;have hxx:nx=x':=by injection hxe
     subst hxx;have hv2:y1 = .held cv:=by
      have:hld cv=some (.held cv,[]):=rfl;rw[this] at hv;injection hv with hv;injection hv with hv _;exact hv.symm
     subst hv2;have hgx:=HD0.out.qh3 hat;have hcv:cv = .int .i64 (q0c o nx):=by have:=HGS.out nx;rw[hgx] at this;exact this
     subst hcv;obtain⟨S,hS⟩ : ∃ S,S=q0c o nx:=⟨_,rfl⟩
     rw[<-hS] at hen;have hen2:(Instr.entry (.pointer (some ⟨r,0,none⟩))).run Tryz.prog w2 = .ok (.tuple #[.int .i64 nx,.int .i64 S]) w2:=hen;have k22:w2.cell? ⟨bx,2,none⟩=some (.slice x.a x.n x.c):=ql hg1 k2 (fun k e=>by cases e;show bx≠r;omega);have hB2:Below w.heap.size w w2:=HB.out.grown hg1 HB.out.size (fun k e=>by cases e;omega);have mM2:Rws w2 base BM (fun b=>b=r) no (plO o):=by
      obtain⟨g,vm,a1,a2,a3,a4,a5,a6⟩:=mM;refine⟨g,vm,a1.kept hg1 (fun e=>by cases e;omega),a2,a3,fun c=>(a4 c).kept hg1 ?_,a5,a6⟩;cases h:(vm c).ownBlock with
      | none=>exact .inl rfl
      | some b=>exact .inr fun e=>(a6 c b h).2 (by injection e)
     have HR1:=lhd (aiq hrg1 (aiq hlt (aiq hS (aiq mM2 (aiq hB2 (aiq hgx hlk))))));have hz2:base<=w2.heap.size:=by have:=hg1.size;omega
     clear hkey hlk hv hat hrg1 hlt hgx hxe hxw hen hrg mM hS k2 hg1 hs1 mM2 hB2;by_cases hS0:S=0
     ·subst hS0;go_wp2_with fail;go_roundw
      case measure=>rw[HR1.out.1.left_eq,HRG.out.left_eq];exact HR1.out.2.1
      case rel =>
       refine⟨_,_,HR1.out.1,(show Hid _ from fun c hc hl=>?_),HR1.out.2.2.2.1,HR1.out.2.2.2.2.1,k22,hz2⟩;by_cases hcn:c=nx
       ·rw[hcn];exact HR1.out.2.2.1.symm
       ·have:(Lit.int .i64 c).sameKey (.int .i64 nx)=false:=by simp[Lit.sameKey,hcn]
        rw[this] at hl;exact HF.out c hc (by simpa using hl)
     ·have hn1:(S != 0)=true:=by simpa using hS0
      have hn2:(S == 0)=false:=by simpa using hS0
      have hE:yi (qx m) x.cl=24:=by
       have h1:q0c (occ (qx m) x.cl) nx≠0:=by rw[<-HO.out,<-HR1.out.2.2.1];exact hS0
       have h2:occAt (occ (qx m) x.cl) nx≠[]:=fun e=>h1 (by unfold q0c;rw[e];rfl)
       obtain⟨p,hp⟩:=List.exists_mem_of_ne_nil _ h2;have hp':=List.mem_filter.1 hp;have hpn:p.1=nx:=by simpa using hp'.2
       unfold yi;rw[if_pos ⟨p,hp'.1,by rw[hpn];exact h1⟩]
      have HE:=lhd hE;clear hE hS0;go_wp2_with fail;go_ret;exact⟨by rw[HE.out];rfl,HR1.out.2.2.2.2.1⟩
end Go.Proofs.YtlhicnfeajejhaaGreatDoor
namespace Go.Cx
theorem q6l {α:Type} (key:α->Int) (L:List α) (c:Int):(xi key L).find? (fun x=>key x == c)=L.find? (fun x=>key x == c):=by
 cases hf:(xi key L).find? (fun x=>key x == c) with
 | some X =>
  have h1:=List.mem_of_find?_eq_some hf;have h2:=List.find?_some hf;have h2:key X=c:=by simpa using h2
  subst h2;exact(q4n (key:=key) L X h1).symm
 | none =>
  symm
  rw[List.find?_eq_none] at hf ⊢;intro Y hY hk;obtain⟨X,hX,e⟩:=(q75 (key:=key) c).2 ⟨Y,hY,by simpa using hk⟩;exact hf X hX (by simpa using e)
theorem q1l {T:Int->Option Cl} {x:Cl} (h:xx T x=0):x.s.length<=64/\(∀ s∈x.s,s.g=1\/s.g = -1)/\(1 < x.dim->0 < x.s.length):=by
 unfold xx at h;split at h
 ·cases h
 ·rename_i h1;split at h
  ·cases h
  ·rename_i h2;split at h
   ·cases h
   ·split at h
    ·cases h
    ·rename_i h4;refine⟨by omega,fun s hs=>?_,by omega⟩;apply Classical.byContradiction;intro hn;apply h4;rw[List.any_eq_true];exact⟨s,hs,by simp;omega⟩
theorem qfs {T:Int->Option Cl} {K:List Cl} {k:Nat} {x:Cl} (hk:K[k]? = some x) (last:Int) :
  q0a T last (K.drop k)=if x.id<=last then some (x.id,20) else if xx T x≠0 then some (x.id,xx T x) else q0a T x.id (K.drop (k+1)):=by
 obtain⟨h,rfl⟩:=List.getElem?_eq_some_iff.1 hk;rw[List.drop_eq_getElem_cons h];rfl
theorem qft {T:Int->Option Cl} {K:List Cl} {k:Nat} {x:Cl} (hk:K[k]? = some x) :
  k9 T (K.drop k)=if 1 < x.dim/\yi T x≠0 then some (x.id,yi T x) else k9 T (K.drop (k+1)):=by
 obtain⟨h,rfl⟩:=List.getElem?_eq_some_iff.1 hk;rw[List.drop_eq_getElem_cons h];rfl
end Go.Cx
namespace Go.Proofs.YtlhicnfeajejhaaGreatDoor
open Go.Cx Go.RowKit
theorem qlg {m:List Ce} {K:List Cl} (h:m.map Ce.cl=canon K):qx m=cAt K:=by
 funext c
 unfold qx cAt cellsOf;rw[q6l,<-h,List.find?_map];rfl
theorem q6m {mm l:List Ce} (hmm:mm.map Ce.cl=canon (l.map Ce.cl)) (hok:COk l):∀ x∈mm,I64 x.id/\I64 x.dim/\∀ s∈x.s,I64 s.c/\I64 s.g:=fun x hx=>by
 have h1:x.cl∈canon (l.map Ce.cl):=by rw[<-hmm];exact List.mem_map_of_mem hx
 unfold canon at h1;obtain⟨y,hy,e⟩:=List.mem_map.1 h1;obtain⟨z,hz,rfl⟩:=List.mem_map.1 ((q2m _ _).1 hy);have e1:z.id=x.id:=congrArg Cl.id e;have e2:z.dim=x.dim:=congrArg Cl.dim e;have e3:stb Sd.c z.s=x.s:=congrArg Cl.s e;obtain⟨⟨a1,a2⟩,_,a3⟩:=hok z hz;exact⟨e1 ▸ a1,e2 ▸ a2,fun s hs=>a3 s ((q2m _ _).1 (e3 ▸ hs))⟩
theorem qlh (v:Value) (l:List Ce) (w:World) (h:SlC w v l) (hl:l.length<=1099511627776) (hok:COk l) :
  Calls Tryz.prog 150 #[.agg #[v]] w fun e w'=>e = .returned (.tuple #[.int .i64 (chk (l.map Ce.cl)).1,.int .i64 (chk (l.map Ce.cl)).2])/\Below w.heap.size w w':=by
 obtain⟨a,len,cap,rfl⟩:=qg h.1;have hlen:l.length=len:=by
  obtain⟨_,_,h3,_⟩:=h.1.open;rw[qt Ce.qp] at h3;omega
 have HA:=lhd (aiq h (aiq hl hok));have HL:=lhd hlen;clear h hl hok hlen;by_cases h4:4000 < len
 ·have hE:chk (l.map Ce.cl)=(0,2):=by unfold chk;rw[if_pos (by rw[List.length_map,HL.out];exact h4)]
  have HE:=lhd hE;clear hE;go_enter Tryz.func150,Tryz.ntmps150;go_wp2_with fail;go_ret2;exact⟨by rw[HE.out];rfl,(Below.refl _ w).alloc (nlr _) _⟩
 ·have hE:chk (l.map Ce.cl)=match q0a (cAt (l.map Ce.cl)) 0 (canon (l.map Ce.cl)) with | some e=>e | none=>(k9 (cAt (l.map Ce.cl)) (canon (l.map Ce.cl))).getD (0,0):=by
   unfold chk;rw[if_neg (by rw[List.length_map,HL.out];exact h4)];rfl
  have HE:=lhd hE;clear hE;go_enter Tryz.func150,Tryz.ntmps150;go_wp2_with fail;obtain⟨W,hW⟩ : ∃ W:World,W=w.alloc (.cells #[.slice a len cap] 26):=⟨_,rfl⟩
  rw[<-hW];have hBW:Below w.heap.size w W:=by rw[hW];exact(Below.refl _ w).alloc (nlr _) _
  have kb:W.cell? ⟨w.heap.size,0,none⟩=some (.slice a len cap):=by rw[hW];exact qd w #[.slice a len cap] 26 (0,0) 0
  clear hW;refine(qnb _ l W (HA.out.1.q8 hBW) HA.out.2.1 HA.out.2.2).mono ?_;rintro e w1 ⟨T,rfl,hT,hB1⟩;have kb1:=Cx.q8 hB1 kb;have hBw1:Below w.heap.size w w1:=hBW.trans (hB1.mono hBW.size);have HT:=lhd hT;have HB1:=lhd hBw1;clear hT hBw1 hB1 kb hBW;go_wp2_with fail;refine(q8l _ l w1 (HA.out.1.q8 HB1.out) HA.out.2.1 (fun x hx=>(HA.out.2.2 x hx).2.1)).mono ?_;rintro e w2 ⟨r,mm,rfl,hmm,hrow,hsd,hB2⟩;obtain⟨B,nT,vI',m,_,_,t3,_,t5,_,t7,t8⟩:=HT.out;have hBw2:Below w.heap.size w w2:=HB1.out.trans (hB2.mono HB1.out.size);have q0:w2.cell? ⟨T,0,none⟩=some (.map (some B)):=Cx.q8 hB2 t3;have hmp2:=t5.q8 hB2;have hsl2:∀ y∈m,Sl w2 2 y.sl (cat Sd.enc y.s):=fun y hy=>(t8 y hy).q8 hB2
  have hcs:=Sl.qc hrow;obtain⟨a2,n2,c2,rfl⟩:=qg hcs;have hsx:∀ x∈mm,Sl w2 2 x.sl (cat Sd.enc x.s):=fun x hx=>Sl.qc (hsd x hx)
  have hn2:mm.length=n2:=by
   obtain⟨_,_,h3,_⟩:=hcs.open;rw[qt Ce.qp] at h3;omega
  have hn2m:n2<=2 ^ 62:=by
   have h1:mm.length=l.length:=by rw[<-List.length_map (f:=Ce.cl),hmm,q0z,List.length_map]
   have:=HA.out.2.1;omega
  have hTT:=qlg t7;obtain⟨KK,hKK⟩ : ∃ KK,KK=canon (l.map Ce.cl):=⟨_,rfl⟩
  have HE2:Hid (chk (l.map Ce.cl)=match q0a (qx m) 0 KK with | some e=>e | none=>(k9 (qx m) KK).getD (0,0)):=by
   show chk (l.map Ce.cl)=_;rw[HE.out,hTT,hKK]
  have HM:Hid (mm.map Ce.cl=KK):=by show mm.map Ce.cl=KK;rw[hKK];exact hmm
  have HI:=lhd (q6m hmm HA.out.2.2);have HTI:Hid (∀ c y,qx m c=some y->y∈KK/\∀ s∈y.s,I64 s.c):=fun c y hy=>by
   obtain⟨z,hz,_,e,_⟩:=(q97 m c).2 y hy;subst e;exact⟨by rw[hKK,<-t7];exact List.mem_map_of_mem hz,fun s hs=>((q6m t7 HA.out.2.2 z hz).2.2 s hs).1⟩
  have hfd:=q3b a2 n2 c2;have HT2:=lhd (aiq q0 (aiq hmp2 hsl2));have HC:=lhd (aiq hcs hsx);have HN:=lhd hn2;have HB2:=lhd hBw2;clear hmm hrow hsd hB2 t3 t5 t7 t8 hBw2 q0 hmp2 hsl2 hcs hsx hn2 hTT hKK kb1 h4;go_wp2_with fail;clear hfd;go_loopw [5,24] (fun la i wr=>∃ (k:Nat) (last:Int),i = .int .i64 k/\la = .int .i64 last/\k<=n2/\Hid (q0a (qx m) 0 KK=q0a (qx m) last (KK.drop k))/\Below w2.heap.size w2 wr) (fun _ i _=>n2 - (vI i).toNat)
  case atStart=>exact⟨0,0,rfl,rfl,Nat.zero_le _,(show Hid _ from rfl),Below.refl _ _⟩
  case round =>
   obtain⟨k,last,rfl,rfl,hk,HK,hB⟩:=hrel;by_cases hlt:k < n2
   ·obtain⟨x,hx⟩ : ∃ x,mm[k]? = some x:=⟨_,List.getElem?_eq_getElem (by rw[HN.out];exact hlt)⟩
    obtain⟨h2,h3,h4,h5,h6⟩:=HC.out.1.open;obtain⟨ad,rfl⟩ : ∃ ad,a2=some ad:=by
     cases a2 with
     | none=>have:=h5 rfl;omega
     | some ad=>exact⟨ad,rfl⟩
    obtain⟨e0,e1,e2⟩:=zh mm k x hx;have d0:wr.cell? (ad.add (k*3))=some (.int .i64 x.id):=Cx.q8 hB (h6 ad rfl _ _ e0);have d1:wr.cell? ⟨(ad.add (k*3)).block,(ad.add (k*3)).off+1,none⟩=some (.int .i64 x.dim):=by rw[qi _ _ _ (by omega)];exact Cx.q8 hB (h6 ad rfl _ _ e1)
    have d2:wr.cell? ⟨(ad.add (k*3)).block,(ad.add (k*3)).off+2,none⟩=some (.slice x.a x.n x.c):=by rw[qi _ _ _ (by omega)];exact Cx.q8 hB (h6 ad rfl _ _ e2)
    have hmx:=List.mem_of_getElem? hx;have hKk:KK[k]? = some x.cl:=by rw[<-HM.out,List.getElem?_map,hx];rfl
    have hstep:q0a (qx m) last (KK.drop k)=if x.id<=last then some (x.id,20) else if xx (qx m) x.cl≠0 then some (x.id,xx (qx m) x.cl) else q0a (qx m) x.id (KK.drop (k+1)):=qfs (T:=qx m) hKk last
    have hBV:Below wr.heap.size wr (wr.alloc (.cells #[.int .i64 x.id,.int .i64 x.dim,.slice x.a x.n x.c] 75)):=(Below.refl _ wr).alloc (nlr _) _;have HX:=lhd (aiq hmx (aiq hstep (aiq hBV hB)));clear h2 h3 h4 h5 h6 e0 e1 e2 hx hmx hKk hstep hBV hB;by_cases hle:x.id<=last
    ·have hr:chk (l.map Ce.cl)=(x.id,20):=by rw[HE2.out,HK.out,HX.out.2.1,if_pos hle]
     have HR:=lhd hr;clear hr;go_wp2_with fail;go_ret2;refine⟨?_,HB2.out.trans ((HX.out.2.2.2.trans (HX.out.2.2.1.mono HX.out.2.2.2.size)).mono HB2.out.size)⟩;rw[HR.out];rfl
    ·have HLE:=lhd (aiq hle trivial);have hle2:last < x.id:=by omega
     clear hle;go_wp2_with fail;obtain⟨V,hV⟩ : ∃ V:World,V=wr.alloc (.cells #[.int .i64 x.id,.int .i64 x.dim,.slice x.a x.n x.c] 75):=⟨_,rfl⟩
     have v0:V.cell? ⟨wr.heap.size,0,none⟩=some (.int .i64 x.id):=by rw[hV];exact qd wr #[.int .i64 x.id,.int .i64 x.dim,.slice x.a x.n x.c] 75 (0,0) 0
     have hB2V:Below w2.heap.size w2 V:=HX.out.2.2.2.trans (by rw[hV];exact HX.out.2.2.1.mono HX.out.2.2.2.size);rw[<-hV];have HV:=lhd hB2V;have hcall:=qo3 T B nT m x V (Cx.q8 hB2V HT2.out.1) (HT2.out.2.1.q8 hB2V) ((HC.out.2 x HX.out.1).q8 hB2V) (HI.out x HX.out.1).2.1 (HI.out x HX.out.1).2.2;clear hV hB2V;refine hcall.mono ?_;rintro e w3 ⟨rfl,hB3⟩;have v03:=Cx.q8 hB3 v0;have HB3:=lhd (HV.out.trans (hB3.mono HV.out.size));clear hcall v0 hB3;obtain⟨F,hF⟩ : ∃ F,F=xx (qx m) x.cl:=⟨_,rfl⟩
     rw[<-hF];have HF:=lhd hF;by_cases hF0:F=0
     ·subst hF0;have hK2:q0a (qx m) 0 KK=q0a (qx m) x.id (KK.drop (k+1)):=by
       rw[HK.out,HX.out.2.1,if_neg (Int.not_le.2 HLE.out.1),if_neg (fun h=>h HF.out.symm)]
      have HK2:=lhd hK2;clear hF hK2;go_wp2_with fail;go_roundw
      case measure=>simp[vI];omega
      case rel=>exact⟨k+1,x.id,qh (by omega),rfl,by omega,HK2,HB3.out⟩
     ·have hF1:(F != 0)=true:=by simpa using hF0
      have hr:chk (l.map Ce.cl)=(x.id,F):=by rw[HE2.out,HK.out,HX.out.2.1,if_neg (Int.not_le.2 HLE.out.1),if_pos (by rw[<-HF.out];exact hF0),hF]
      have HR:=lhd hr;clear hr hF;go_wp2_with fail;go_ret2;exact⟨by rw[HR.out];rfl,HB2.out.trans (HB3.out.mono HB2.out.size)⟩
   ·have hkn:k=n2:=by omega
    have hnone:q0a (qx m) 0 KK=none:=by
     rw[HK.out,List.drop_eq_nil_of_le (by rw[<-HM.out,List.length_map,HN.out];omega)];rfl
    have HNONE:=lhd hnone;have HBR:=lhd hB;have hlt2:((k:Int) < (n2:Int))=False:=by simp;omega
    clear hnone hkn;go_wp2_with fail;have hz1:=(q4f HNONE.out).1;have HSG:Hid (∀ y∈KK,y.s.length<=64/\(∀ r∈y.s,r.g=1\/r.g = -1)/\(1 < y.dim->0 < y.s.length)):=fun y hy=>q1l (hz1 y hy).2
    have hE3:chk (l.map Ce.cl)=(k9 (qx m) KK).getD (0,0):=by rw[HE2.out,HNONE.out]
    have HE3:=lhd hE3;clear hz1 hE3 hlt2 hB;obtain⟨w4,hw4⟩ : ∃ w4,w4=wr:=⟨_,rfl⟩
    subst hw4;go_loopw [47] (fun i wr=>∃ k:Nat,i = .int .i64 k/\k<=n2/\Hid (k9 (qx m) KK=k9 (qx m) (KK.drop k))/\Below w2.heap.size w2 wr) (fun i _=>n2 - (vI i).toNat)
    case atStart=>exact⟨0,rfl,Nat.zero_le _,(show Hid _ from rfl),HBR.out⟩
    case round =>
     obtain⟨k,rfl,hk,HK,hB⟩:=hrel;by_cases hlt:k < n2
     ·obtain⟨x,hx⟩ : ∃ x,mm[k]? = some x:=⟨_,List.getElem?_eq_getElem (by rw[HN.out];exact hlt)⟩
      obtain⟨h2,h3,h4,h5,h6⟩:=HC.out.1.open;obtain⟨ad,rfl⟩ : ∃ ad,a2=some ad:=by
       cases a2 with
       | none=>have:=h5 rfl;omega
       | some ad=>exact⟨ad,rfl⟩
      obtain⟨e0,e1,e2⟩:=zh mm k x hx;have d0:wr.cell? (ad.add (k*3))=some (.int .i64 x.id):=Cx.q8 hB (h6 ad rfl _ _ e0);have d1:wr.cell? ⟨(ad.add (k*3)).block,(ad.add (k*3)).off+1,none⟩=some (.int .i64 x.dim):=by rw[qi _ _ _ (by omega)];exact Cx.q8 hB (h6 ad rfl _ _ e1)
      have d2:wr.cell? ⟨(ad.add (k*3)).block,(ad.add (k*3)).off+2,none⟩=some (.slice x.a x.n x.c):=by rw[qi _ _ _ (by omega)];exact Cx.q8 hB (h6 ad rfl _ _ e2)
      have hmx:=List.mem_of_getElem? hx;have hKk:KK[k]? = some x.cl:=by rw[<-HM.out,List.getElem?_map,hx];rfl
      have hstep:k9 (qx m) (KK.drop k)=if 1 < x.dim/\yi (qx m) x.cl≠0 then some (x.id,yi (qx m) x.cl) else k9 (qx m) (KK.drop (k+1)):=qft (T:=qx m) hKk
      have hBV:Below wr.heap.size wr (wr.alloc (.cells #[.int .i64 x.id,.int .i64 x.dim,.slice x.a x.n x.c] 75)):=(Below.refl _ wr).alloc (nlr _) _;have HX:=lhd (aiq hmx (aiq hstep (aiq hBV (aiq hB (List.mem_of_getElem? hKk)))));clear h2 h3 h4 h5 h6 e0 e1 e2 hx hmx hKk hstep hBV hB;by_cases hd:1 < x.dim
      ·have HD:=lhd hd;go_wp2_with fail;obtain⟨V,hV⟩ : ∃ V:World,V=wr.alloc (.cells #[.int .i64 x.id,.int .i64 x.dim,.slice x.a x.n x.c] 75):=⟨_,rfl⟩
       have v0:V.cell? ⟨wr.heap.size,0,none⟩=some (.int .i64 x.id):=by rw[hV];exact qd wr #[.int .i64 x.id,.int .i64 x.dim,.slice x.a x.n x.c] 75 (0,0) 0
       have hB2V:Below w2.heap.size w2 V:=HX.out.2.2.2.1.trans (by rw[hV];exact HX.out.2.2.1.mono HX.out.2.2.2.1.size);rw[<-hV];have HV:=lhd hB2V;have hsg:=HSG.out x.cl HX.out.2.2.2.2;have hcall:=qip T B nT m x V (Cx.q8 hB2V HT2.out.1) (HT2.out.2.1.q8 hB2V) ((HC.out.2 x HX.out.1).q8 hB2V) (fun y hy=>(HT2.out.2.2 y hy).q8 hB2V)
        ⟨hsg.1,fun r hr=>⟨((HI.out x HX.out.1).2.2 r hr).1,hsg.2.1 r hr⟩⟩ (hsg.2.2 hd) (fun c y hy=>⟨(HSG.out y (HTI.out c y hy).1).1,fun r hr=>⟨(HTI.out c y hy).2 r hr,(HSG.out y (HTI.out c y hy).1).2.1 r hr⟩⟩)
       clear hV hB2V hsg;refine hcall.mono ?_;rintro e w3 ⟨rfl,hB3⟩;have v03:=Cx.q8 hB3 v0;have HB3:=lhd (HV.out.trans (hB3.mono HV.out.size));clear hcall v0 hB3;obtain⟨F,hF⟩ : ∃ F,F=yi (qx m) x.cl:=⟨_,rfl⟩
       rw[<-hF];have HF:=lhd hF;by_cases hF0:F=0
       ·subst hF0;have hK2:k9 (qx m) KK=k9 (qx m) (KK.drop (k+1)):=by
         rw[HK.out,HX.out.2.1,if_neg (fun h=>h.2 HF.out.symm)]
        have HK2:=lhd hK2;clear hF hK2;go_wp2_with fail;go_roundw
        case measure=>simp[vI];omega
        case rel=>exact⟨k+1,qh (by omega),by omega,HK2,HB3.out⟩
       ·have hF1:(F != 0)=true:=by simpa using hF0
        have hr:chk (l.map Ce.cl)=(x.id,F):=by rw[HE3.out,HK.out,HX.out.2.1,if_pos ⟨HD.out,by rw[<-HF.out];exact hF0⟩,<-hF];rfl
        have HR:=lhd hr;clear hr hF;go_wp2_with fail;go_ret2;exact⟨by rw[HR.out];rfl,HB2.out.trans (HB3.out.mono HB2.out.size)⟩
      ·have hK2:k9 (qx m) KK=k9 (qx m) (KK.drop (k+1)):=by
        rw[HK.out,HX.out.2.1,if_neg (fun h=>hd h.1)]
       have HK2:=lhd hK2;clear hK2;go_wp2_with fail;go_roundw
       case measure=>simp[vI];omega
       case rel=>exact⟨k+1,qh (by omega),by omega,HK2,HX.out.2.2.2.1.trans (HX.out.2.2.1.mono HX.out.2.2.2.1.size)⟩
     ·have hr:chk (l.map Ce.cl)=(0,0):=by
       rw[HE3.out,HK.out,List.drop_eq_nil_of_le (by rw[<-HM.out,List.length_map,HN.out];omega)];rfl
      have HR:=lhd hr;have HBE:=lhd hB;clear hr;go_wp2_with fail;go_ret2;exact⟨by rw[HR.out];rfl,HB2.out.trans (HBE.out.mono HB2.out.size)⟩
end Go.Proofs.YtlhicnfeajejhaaGreatDoor
