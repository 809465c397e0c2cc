/- Steps towards MorseParts. Conditions: none. -/
import Derived.Deep.RegionHeldLaw
import Derived.Test.YtlhicnfeajejhaaGreatDoorGQd
set_option maxRecDepth 1000000
set_option maxHeartbeats 16000000
namespace Go.Cx
open Go.Proofs.YtlhicnfeajejhaaGreatDoor
section
variable (T:Int->Option Cl) (x:Cl)
def oF (k:Nat):List (Int×Nat×Int):=match x.s[k]? with
 | none=>[]
 | some s=>match T s.c with
  | none=>[]
  | some y=>y.s.map fun r=>(r.c,k,s.g*r.g)
def q1k (k:Nat):List (Int×Nat×Int):=(List.range k).flatMap (oF T x)
theorem q80 (k:Nat):q1k T x (k+1)=q1k T x k++oF T x k:=by unfold q1k;rw[bA,List.flatMap_append];simp
theorem qb2:q1k T x x.s.length=occ T x:=rfl
end
def q0c (o:List (Int×Nat×Int)) (c:Int):Int:=((occAt o c).map fun p=>p.2.2).sum
def plO (o:List (Int×Nat×Int)) (c:Int):List Int:=(occAt o c).map fun p=>(p.2.1:Int)
theorem q3g (o:List (Int×Nat×Int)) (p:Int×Nat×Int) (d:Int):occAt (o++[p]) d=if d=p.1 then occAt o d++[p] else occAt o d:=by
 unfold occAt;rw[bm];by_cases h:d=p.1
 ·simp[h]
 ·have:(p.1 == d)=false:=by simpa using fun e=>h e.symm
  simp[h,this]
theorem qfq (o:List (Int×Nat×Int)) (p:Int×Nat×Int):q0c (o++[p])=pu (q0c o) p.1 (q0c o p.1+p.2.2):=by
 funext d
 unfold q0c pu;rw[q3g];by_cases h:d=p.1
 ·subst h;simp
 ·simp[h]
theorem qim (o:List (Int×Nat×Int)) (p:Int×Nat×Int):plO (o++[p])=q1r (plO o) p.1 p.2.1:=by
 funext d
 unfold plO q1r;rw[q3g];by_cases h:d=p.1
 ·subst h;simp
 ·simp[h]
theorem qcm (o:List (Int×Nat×Int)) (h:∀ p∈o,-1<=p.2.2/\p.2.2<=1) (c:Int) : -(o.length:Int)<=q0c o c/\q0c o c<=o.length:=by
 induction o with
 | nil=>simp[q0c,occAt]
 | cons p o ih =>
  have h1:=ih fun q hq=>h q (bh _ hq)
  have h2:=h p gV;unfold q0c occAt at h1 ⊢;rw[List.filter_cons];split
  ·rw[gR,bt,gy];omega
  ·rw[gy];omega
theorem qle (o:List (Int×Nat×Int)) (c:Int):(plO o c).length<=o.length:=by unfold plO occAt;rw[gn];exact gQ _ _
end Go.Cx
namespace Go.Proofs.YtlhicnfeajejhaaGreatDoor
open Go.RowKit Go.Cx Go.Maps
attribute [local go_sem ↓] Go.wp_at_zero Go.wp_at_succ
theorem qin (i d:Int) (a:Option Addr) (n c:Nat):∀ w:World,(Instr.field 75 (.agg #[.int .i64 i,.int .i64 d,.slice a n c]) 2).run Tryz.prog w = .ok (.slice a n c) w:=fun w=>by kernel_rfl
def q99 (s:List Sd):Prop:=s.length<=64/\∀ r∈s,I64 r.c/\(r.g=1\/r.g = -1)
theorem qio {T:Int->Option Cl} {x:Cl} (hT:∀ c y,T c=some y->q99 y.s) (k:Nat):(oF T x k).length<=64:=by
 unfold oF;cases x.s[k]? with
 | none=>simp
 | some s =>
  dsimp only
  cases h:T s.c with
  | none=>simp
  | some y=>simp only [List.length_map];exact(hT _ y h).1
theorem qb3 {T:Int->Option Cl} {x:Cl} (hT:∀ c y,T c=some y->q99 y.s) (k:Nat):(q1k T x k).length<=k*64:=by
 induction k with
 | zero=>simp[q1k]
 | succ k ih=>rw[q80,gc];have:=qio (x:=x) hT k;omega
theorem qmm {T:Int->Option Cl} {x:Cl} (hx:q99 x.s) (hT:∀ c y,T c=some y->q99 y.s) (k:Nat):∀ p∈oF T x k,-1<=p.2.2/\p.2.2<=1:=by
 unfold oF;cases hs:x.s[k]? with
 | none=>simp
 | some s =>
  dsimp only
  cases h:T s.c with
  | none=>simp
  | some y =>intro p hp;obtain⟨r,hr,rfl⟩:=gr.1 hp;have h1:=(hx.2 s (gh hs)).2;have h2:=((hT _ y h).2 r hr).2;show -1<=s.g*r.g/\s.g*r.g<=1;rcases h1 with h1 | h1 <;> rcases h2 with h2 | h2 <;> rw[h1,h2] <;> decide
theorem qlf {T:Int->Option Cl} {x:Cl} (hx:q99 x.s) (hT:∀ c y,T c=some y->q99 y.s) (k:Nat):∀ p∈q1k T x k,-1<=p.2.2/\p.2.2<=1:=by intro p hp;obtain⟨i,_,hi⟩:=List.mem_flatMap.1 hp;exact qmm hx hT i p hi
theorem q81 {S:Nat->Prop} {w w':World} (h:Gs S w w') {P:Program} {k:TypeId} {H:Type} {R:Value->Option (DataW H×List MemPlace)} {b r n:Nat} {D:DataW H} {left:Lit->Bool} {nU:Nat} (hr:w.ranges P k R b r n D left nU) (hb:¬ S b) (C9:¬ S r):w'.ranges P k R b r n D left nU:=by obtain⟨es,clock,since,seen,c0,cW,F,hs,hD,rL,rest⟩:=hr;have lb:b < w.heap.size:=(gp.1 cW).1;have lr:r < w.heap.size:=(gp.1 rL).1;exact⟨es,clock,since,seen,c0,by rw[h.blk b lb hb];exact cW,F,hs,hD,by rw[h.blk r lr C9];exact rL,rest⟩
theorem qb4 {jl:Int->List Int} {n:Nat} (h:∀ i,(jl i).length<=n) (c x:Int):∀ i,(q1r jl c x i).length<=n+1:=fun i=>by
 unfold q1r;split
 ·rw[gc];have:=h c;simp;omega
 ·have:=h i;omega
theorem qb5 {jl:Int->List Int} {c x i k:Int} : k∈q1r jl c x i↔k∈jl i\/(i=c/\k=x):=by
 unfold q1r;split
 ·next e=>subst e;rw[gF,List.mem_singleton];simp
 ·next e=>simp[e]
theorem q82 (x:Int):(Lit.int .i64 x).sameKey (Lit.int .i64 x)=true:=by simp[Lit.sameKey]
theorem qea {left:Lit->Bool} {c nx:Int} (h:(left (.int .i64 c) && !(Lit.int .i64 c).sameKey (Lit.int .i64 nx))=false) (hn:c≠nx):left (.int .i64 c)=false:=by
 cases hl:left (.int .i64 c) with
 | false=>rfl
 | true =>
  rw[hl,Bool.true_and] at h;have:(Lit.int .i64 c).sameKey (Lit.int .i64 nx)=true:=by simpa using h
  have:=WideAt.sameKey_eq this;injection this with _ e
  exact absurd e hn
theorem q9a {T:Int->Option Cl} {x:Cl} {c i:Int} (h:i∈plO (occ T x) c):∃ k:Nat,i=k/\k < x.s.length:=by
 unfold plO at h;obtain⟨p,hp,rfl⟩:=gr.1 h;have hp:=(gK.1 hp).1;unfold occ at hp;obtain⟨k,hk,hp⟩:=List.mem_flatMap.1 hp;have hk:=gD.1 hk;refine⟨k,?_,hk⟩;rw[g8 hk] at hp
 dsimp only at hp
 split at hp
 ·cases hp
 ·obtain⟨r,_,rfl⟩:=gr.1 hp;rfl
theorem qeb {T:Int->Option Cl} {x:Cl} {o:List (Int×Nat×Int)} (ho:o=occ T x) (hx:x.s.length<=64) {c i:Int} (h:i∈plO o c):I64 i:=by rw[ho] at h;obtain⟨k,rfl,hk⟩:=q9a h;unfold I64;omega
theorem q43:∀ (L R:List Int),L.Nodup->(∀ c∈L,c∈R)->L.length<=R.length
 | [],_,_,_=>go _
 | a :: l,R,hd,hs=>by obtain⟨h1,h2⟩:=List.nodup_cons.1 hd;have ha:=hs a (gV ..);have:=q43 l (R.erase a) h2 (fun c hc=>(List.mem_erase_of_ne (fun e=>by subst e;exact h1 hc)).2 (hs c (bh _ hc)));rw[List.length_erase_of_mem ha] at this;have:0 < R.length:=List.length_pos_of_mem ha;simp only [List.length_cons];omega
theorem qfr {L R:List Int} (hd:L.Nodup) (hs:∀ c∈L,c∈R) (he:R.length<=L.length):∀ c∈R,c∈L:=fun c hc=>by apply be;intro hn;have:=q43 (c :: L) R (List.nodup_cons.2 ⟨hn,hd⟩) (fun d hd=>(gx.1 hd).elim (fun e=>e ▸ hc) (hs d));simp only [List.length_cons] at this;omega
theorem q44 {o:List (Int×Nat×Int)} {c i:Int} : i∈plO o c↔∃ (k:Nat) (g:Int),i=k/\(c,k,g)∈o:=by
 unfold plO occAt;constructor
 ·intro h;obtain⟨p,hp,rfl⟩:=gr.1 h;obtain⟨h1,h2⟩:=gK.1 hp;have h2:p.1=c:=by simpa using h2
  subst h2;exact⟨p.2.1,p.2.2,rfl,h1⟩
 ·rintro ⟨k,g,rfl,h⟩;exact gr.2 ⟨(c,k,g),gK.2 ⟨h,by simp⟩,rfl⟩
theorem qcn {T:Int->Option Cl} {x:Cl} {o:List (Int×Nat×Int)} (ho:o=occ T x) (kM:∀ c,q0c o c=0) (h2:∀ c,plO o c≠[]->(plO o c).length=2) (hn:0 < x.s.length) {S:Int->Prop} {L:List Int} (hL:L.Nodup) (hm:∀ c,c∈L↔S c) (h0:S 0)
  {J:Int->Int->Prop} (hJ:∀ i k,J i k↔∃ c,plO o c=[i,k]\/plO o c=[k,i]) (hr:∀ d,Relation.TransGen J 0 d->S d) (hs:∀ d,S d->d=0\/Relation.TransGen J 0 d) :
  xv T x=if L.length=x.s.length then 0 else 25:=by
 have td:∀ i k,J i k->∃ k':Nat,k=k'/\k' < x.s.length:=fun i k h=>by obtain⟨c,hc⟩:=(hJ i k).1 h;refine q9a (T:=T) (x:=x) (c:=c) ?_;rw[<-ho];rcases hc with hc | hc <;> rw[hc] <;> simp
 have EX:∀ i k:Nat,J i k->adj o i k:=fun i k h=>by
  obtain⟨c,hc⟩:=(hJ i k).1 h;have h1:(i:Int)∈plO o c:=by rcases hc with hc | hc <;> rw[hc] <;> simp
  have h2:(k:Int)∈plO o c:=by rcases hc with hc | hc <;> rw[hc] <;> simp
  obtain⟨a,g,e1,m1⟩:=q44.1 h1;obtain⟨b,g',e2,m2⟩:=q44.1 h2;have e1:i=a:=by omega
  have e2:k=b:=by omega
  subst e1 e2;exact⟨c,g,g',m1,m2⟩
 have yK:∀ i k:Nat,adj o i k->i=k\/J i k:=fun i k ⟨c,g,g',m1,m2⟩=>by
  have h1:(i:Int)∈plO o c:=q44.2 ⟨i,g,rfl,m1⟩;have h3:(k:Int)∈plO o c:=q44.2 ⟨k,g',rfl,m2⟩;have hl:=h2 c (fun e=>by rw[e] at h1;cases h1)
  match hp:plO o c,hl with
  | [a,b],_ =>
   rw[hp] at h1 h3;simp only [List.mem_cons,List.not_mem_nil,or_false] at h1 h3;by_cases he:i=k
   ·exact .inl he
   ·refine .inr ((hJ i k).2 ⟨c,?_⟩);rw[hp];rcases h1 with h1 | h1 <;> rcases h3 with h3 | h3
    ·omega
    ·rw[h1,h3];exact .inl rfl
    ·rw[h1,h3];exact .inr rfl
    ·omega
 have PI:∀ d,Relation.TransGen J 0 d->∃ k:Nat,d=k/\k < x.s.length/\Relation.TransGen (adj o) 0 k:=fun d hd=>by
  induction hd with
  | single h =>obtain⟨k,rfl,hk⟩:=td _ _ h;exact⟨k,rfl,hk,.single (EX 0 k h)⟩
  | tail _ h ih =>obtain⟨b,rfl,_,hb⟩:=ih;obtain⟨k,rfl,hk⟩:=td _ _ h;exact⟨k,rfl,hk,.tail hb (EX b k h)⟩
 have EY:∀ k:Nat,Relation.TransGen (adj o) 0 k->k=0\/Relation.TransGen J 0 (k:Int):=fun k hk=>by
  induction hk with
  | single h =>
   rcases yK _ _ h with rfl | h
   ·exact .inl rfl
   ·exact .inr (.single h)
  | tail _ h ih =>
   rcases yK _ _ h with rfl | h
   ·exact ih
   ·rcases ih with rfl | ih
    ·exact .inr (.single h)
    ·exact .inr (.tail ih h)
 have jB:∀ c∈L,c∈(List.range x.s.length).map fun k:Nat=>(k:Int):=fun c hc=>by
  rcases hs c ((hm c).1 hc) with rfl | h
  ·exact gr.2 ⟨0,gD.2 hn,rfl⟩
  ·obtain⟨k,rfl,hk,_⟩:=PI _ h;exact gr.2 ⟨k,gD.2 hk,rfl⟩
 have Zb:((List.range x.s.length).map fun k:Nat=>(k:Int)).length=x.s.length:=by simp
 have Vp:((List.range x.s.length).map fun k:Nat=>(k:Int)).Nodup:=by unfold List.Nodup;rw[List.pairwise_map];exact List.Pairwise.imp (fun h e=>h (by omega)) (List.nodup_range (n:=x.s.length))
 have hS:∀ k:Nat,S k↔(k=0\/Relation.TransGen J 0 (k:Int)):=fun k=>⟨fun h=>(hs _ h).imp (fun e=>by omega) id,fun h=>h.elim (fun e=>by rw[e];exact h0) (hr _)⟩
 classical
 have hE:xv T x=if ∀ i < x.s.length,i=0\/Relation.TransGen (adj o) 0 i then 0 else 25:=by
  unfold xv;rw[<-ho,if_neg (fun ⟨q,_,hq⟩=>hq (kM q.1)),if_neg];rintro ⟨q,hq,al⟩;apply al;have:plO o q.1≠[]:=fun e=>by have:(q.2.1:Int)∈plO o q.1:=q44.2 ⟨q.2.1,q.2.2,rfl,hq⟩;rw[e] at this;cases this
  have:=h2 _ this;unfold plO at this;rwa [gn] at this
 rw[hE];by_cases hl:L.length=x.s.length
 ·rw[if_pos hl,if_pos];intro i hi;have:=(hS i).1 ((hm _).1 (qfr hL jB (by omega) i (gr.2 ⟨i,gD.2 hi,rfl⟩)));rcases this with h | h
  ·exact .inl h
  ·obtain⟨k,e,_,hk⟩:=PI _ h;have:i=k:=by omega
   subst this;exact .inr hk
 ·rw[if_neg hl,if_neg];intro aG;apply hl;have h1:=q43 _ _ hL jB;have h2:=q43 _ L Vp (fun c hc=>by
   obtain⟨k,hk,rfl⟩:=gr.1 hc;have hk:=gD.1 hk;rw[hm,hS];rcases aG k hk with h | h
   ·exact .inl h
   ·exact EY k h)
  omega
theorem qip (T B n:Nat) (m:List Ce) (x:Ce) (w:World) (q0:w.cell? ⟨T,0,none⟩=some (.map (some B))) (eG:Mp Tryz.prog 3 w B n (gOf m)) (hs:Sl w 2 x.sl (cat Sd.enc x.s)) (ht:∀ y∈m,Sl w 2 y.sl (cat Sd.enc y.s)) (hx:q99 x.s) (dV:0 < x.s.length) (hT:∀ c y,qx m c=some y->q99 y.s) :
  Calls Tryz.prog 179 #[.pointer (some ⟨T,0,none⟩),x.v] w fun e w'=>e = .returned (.int .i64 (xv (qx m) x.cl))/\BwQ w w':=by
 unfold Ce.sl at hs;obtain⟨h1,h2,h3,h4,h5⟩:=hs.open;rw[qt Sd.qp] at h3;have hl:x.s.length=x.n:=by omega
 unfold maxLen at h2;unfold Ce.v;have iT:x.n<=64:=by have:=hx.1;omega
 have HS:=lhd (aiq hs ht);have HM:=lhd eG;have HX:=lhd (aiq hx (aiq dV (aiq hT hl)));have dL:=@run_makeMap Tryz.prog;have mixed:Tryz.prog.follows .mixedOrders=true:=by kernel_rfl
 clear h3 h4 h5 hs ht eG hx dV hT hl;go_enter Tryz.func179,Tryz.ntmps179;go_wp2_with fail;obtain⟨W,hW⟩ : ∃ W,W=((w.alloc (.cells #[.int .i64 x.id,.int .i64 x.dim,.slice x.a x.n x.c] 75)).alloc (.map #[] 0)).alloc (.map #[] 0):=⟨_,rfl⟩
 rw[<-hW];have bI:BwQ w W:=by rw[hW];exact((bal w _).alloc (by simp) _).alloc (by simp;omega) _
 have k2:W.cell? ⟨w.heap.size,2,none⟩=some (.slice x.a x.n x.c):=by rw[hW];exact qk (qk (qd w _ _ (0,0) 2) _) _
 have mS:MpI W (w.heap.size+1) 0 (q0c []):=by rw[hW,show q0c []=fun _=>0 from rfl];have:=MpI.made (w.alloc (.cells #[.int .i64 x.id,.int .i64 x.dim,.slice x.a x.n x.c] 75));(try simp only[BwQ] at this);rw[World.size_alloc] at this;exact this.q8 (bal _ _)
 have mM:Rws W (w.heap.size+3) (w.heap.size+1+1) (fun _=>False) 0 (plO []):=by rw[hW,show plO []=fun _=>[] from rfl];have:=Rws.made ((w.alloc (.cells #[.int .i64 x.id,.int .i64 x.dim,.slice x.a x.n x.c] 75)).alloc (.map #[] 0)) (w.heap.size+3) (fun _=>False);(try simp only[BwQ]at this);simp only [World.size_alloc] at this;exact this
 have wY:W.heap.size=w.heap.size+3:=by rw[hW];simp
 obtain⟨bx,im⟩ : ∃ b,b=w.heap.size:=⟨_,rfl⟩
 obtain⟨BU,ej⟩ : ∃ b,b=w.heap.size+1:=⟨_,rfl⟩
 obtain⟨BM,L5⟩ : ∃ b,b=w.heap.size+1+1:=⟨_,rfl⟩
 obtain⟨base,ae⟩ : ∃ b,b=w.heap.size+3:=⟨_,rfl⟩
 rw[<-L5] at mM ⊢;rw[<-ej] at mS ⊢;rw[<-ae] at mM wY;have qV:bx < BU/\BU < BM/\BM < base:=by omega
 have ck:w.heap.size<=bx/\bx<=w.heap.size:=by omega
 rw[<-im] at k2 ⊢;have HW:=lhd (aiq bI (aiq im (aiq ej (aiq L5 ae))));have EZ:base<=W.heap.size:=by omega
 clear hW bI im ej L5 ae wY;go_wp2_with fail;go_loopw [23] (fun i wr=>∃ k:Nat,i = .int .i64 k/\k<=x.n/\MpI wr BU (q1k (qx m) x.cl k).length (q0c (q1k (qx m) x.cl k))/\Rws wr base BM (fun _=>False) (q1k (qx m) x.cl k).length (plO (q1k (qx m) x.cl k))/\Hid (BwQ w wr)/\wr.cell? ⟨bx,2,none⟩=some (.slice x.a x.n x.c)/\base<=wr.heap.size) (fun i _=>x.n - (vI i).toNat)
 case atStart=>exact⟨0,rfl,go _,mS,mM,HW.out.1,k2,EZ⟩
 case round =>
  clear mS mM k2 EZ;obtain⟨k,rfl,hk,mS,mM,HB,k2,kB⟩:=hrel;by_cases hlt:k < x.n
  ·obtain⟨s,hs⟩ : ∃ s,x.s[k]? = some s:=⟨_,g8 (by rw[HX.out.2.2.2];exact hlt)⟩
   obtain⟨_,_,_,h5,h6⟩:=(HS.out.1.q8 HB.out).open;obtain⟨ad,cu⟩ : ∃ ad,x.a=some ad:=by
    cases ha:x.a with
    | none=>have:=h5 ha;omega
    | some ad=>exact⟨ad,rfl⟩
   obtain⟨e0,e1⟩:=zw x.s k s hs;have g0:wr.cell? (ad.add (k*2))=some (.int .i64 s.c):=h6 ad cu _ _ e0;have g1:wr.cell? ⟨(ad.add (k*2)).block,(ad.add (k*2)).off+1,none⟩=some (.int .i64 s.g):=by rw[qi _ _ _ (by omega)];exact h6 ad cu _ _ e1
   have bX:=HX.out.1.2 s (gh hs);have aq:=yx bX.1;have Ae:wr.cell? ⟨T,0,none⟩=some (.map (some B)):=Cx.q8 HB.out q0;obtain⟨zi,zd,za,zn,zc,hz⟩ : ∃ (zi zd:Int) (za:Option Addr) (zn zc:Nat),(gOf m s.c).getD (.agg #[.int .i64 0,.int .i64 0,.slice none 0 0]) = .agg #[.int .i64 zi,.int .i64 zd,.slice za zn zc]:=by
    unfold gOf;cases m.find? (fun y=>y.id == s.c) with
    | none=>exact⟨_,_,_,_,_,rfl⟩
    | some y=>exact⟨_,_,_,_,_,rfl⟩
   obtain⟨V,hV⟩ : ∃ V,V=wr.alloc (.cells #[.int .i64 s.c,.int .i64 s.g] 108):=⟨_,rfl⟩
   have aN:BwQ wr V:=by rw[hV];exact bal wr _
   have db:(Instr.lookup 181 (.map (some B)) (.int .i64 s.c) false).run Tryz.prog V.drew = .ok (.agg #[.int .i64 zi,.int .i64 zd,.slice za zn zc]) V.drew:=by
    have:=((HM.out.q8 HB.out).q8 (aN.trans (qb (Below.refl _ V) 1 |>.mono aN.size))).look Tryz.underlying3 Tryz.underlying181 (zeroCell V.drew) aq
    rwa [hz] at this
   have v0:V.cell? ⟨wr.heap.size,0,none⟩=some (.int .i64 s.c):=by rw[hV];exact qd wr _ _ (0,0) 0
   have v1:V.cell? ⟨wr.heap.size,1,none⟩=some (.int .i64 s.g):=by rw[hV];exact qd wr _ _ (0,0) 1
   have vT:V.cell? ⟨T,0,none⟩=some (.map (some B)):=Cx.q8 aN Ae;have pG:=qin zi zd za zn zc;have HZ:=lhd (aiq hs (aiq hz (aiq aN bX)));have Zc:=lhd cu;rw[cu] at k2 ⊢;clear h5 h6 e0 e1 hs hz aN bX Ae;go_upto_region 5 with fail;rw[<-hV];clear hV
   go_still (by kernel_rfl)
   obtain⟨ys,dw,PJ,L6⟩ : ∃ ys:List Sd,(∀ U,BwQ w U->Sl U 2 (.slice za zn zc) (cat Sd.enc ys))/\oF (qx m) x.cl k=ys.map (fun r=>(r.c,k,s.g*r.g))/\q99 ys:=by
    obtain⟨t1,t2⟩:=q97 m s.c;have fY:x.cl.s[k]? = some s:=HZ.out.1;cases hT:qx m s.c with
    | none =>
     rw[hT] at t1;have hg:gOf m s.c=none:=by
      cases hg:gOf m s.c with
      | none=>rfl
      | some v=>rw[hg] at t1;cases t1
     have h1:=HZ.out.2.1;rw[hg] at h1;have h2:(Value.agg #[.int .i64 0,.int .i64 0,.slice none 0 0]) = .agg #[.int .i64 zi,.int .i64 zd,.slice za zn zc]:=h1;obtain⟨rfl,rfl,rfl⟩ : none=za/\0=zn/\0=zc:=⟨by simp at h2;exact h2.2.2.1,by simp at h2;exact h2.2.2.2.1,by simp at h2;exact h2.2.2.2.2⟩
     refine⟨[],fun U _=>Sl.nil _ _,?_,by decide,fun r hr=>by cases hr⟩;unfold oF;rw[fY];dsimp only;rw[hT];rfl
    | some y =>
     obtain⟨z,bR,bV,kK,qJ⟩:=t2 y hT;have h1:=HZ.out.2.1;rw[qJ] at h1;have h2:(Value.agg #[.int .i64 z.id,.int .i64 z.dim,.slice z.a z.n z.c]) = .agg #[.int .i64 zi,.int .i64 zd,.slice za zn zc]:=h1;have h3:Value.slice z.a z.n z.c = .slice za zn zc:=by simp at h2 ⊢;exact h2.2.2
     refine⟨y.s,fun U hU=>?_,?_,HX.out.2.2.1 _ y hT⟩
     ·rw[<-h3,<-kK];exact(HS.out.2 z bR).q8 hU
     ·unfold oF;rw[fY];dsimp only;rw[hT]
   have HY:=lhd (aiq dw (aiq PJ L6));have Fa:ys.length=zn:=by obtain⟨_,_,h3,_⟩:=(dw _ HB.out).open;rw[qt Sd.qp] at h3;omega
   have Zd:zn<=64:=by have:=L6.1;omega
   have PK:=lhd Fa;obtain⟨U,hU⟩ : ∃ U,U=V.drew:=⟨_,rfl⟩
   have ej:BwQ wr U:=by rw[hU];exact HZ.out.2.2.1.trans ((qb (Below.refl _ V) 1).mono HZ.out.2.2.1.size)
   have PL:=Cx.q8 ej k2;have Fb:U.cell? ⟨wr.heap.size,1,none⟩=some (.int .i64 s.g):=by rw[hU];exact v1
   have PM:=mS.q8 ej;have L7:=(mM.qb1 (Av':=fun b=>b=wr.heap.size) (fun b h=>.inl (by omega))).q8 ej;have PN:base<=U.heap.size:=gl kB ej.size;have Ih:=lhd ((btr HB.out ej));have Fc:=HZ.out.2.2.2.2;change Exit.then _ _ _ _ V.drew;rw[<-hU];obtain⟨bs,kI⟩ : ∃ bs,bs=wr.heap.size:=⟨_,rfl⟩
   rw[<-kI] at Fb L7 ⊢;have Vq:base<=bs:=by omega
   have Vr:bs < U.heap.size:=World.block_lt_of_cell? U ⟨bs,1,none⟩ Fb;have Ze:=lhd kI;clear hU kI dw PJ L6 Fa ej v0 v1 vT mS mM k2 db pG;obtain⟨sg,Bg⟩ : ∃ sg,sg=s.g:=⟨_,rfl⟩
   rw[<-Bg] at Fb Fc;have Bh:=lhd Bg;clear Bg;obtain⟨wo,de⟩ : ∃ wo,wo=wr:=⟨_,rfl⟩
   subst de;go_wp2_with fail;go_loopw [37] (fun i wr=>∃ jj:Nat,i = .int .i64 jj/\jj<=zn/\MpI wr BU (q1k (qx m) x.cl k++(oF (qx m) x.cl k).take jj).length (q0c (q1k (qx m) x.cl k++(oF (qx m) x.cl k).take jj))/\Rws wr base BM (fun b=>b=bs) (q1k (qx m) x.cl k++(oF (qx m) x.cl k).take jj).length (plO (q1k (qx m) x.cl k++(oF (qx m) x.cl k).take jj))/\Hid (BwQ w wr)/\wr.cell? ⟨bx,2,none⟩=some (.slice (some ad) x.n x.c)/\wr.cell? ⟨bs,1,none⟩=some (.int .i64 sg)/\base<=wr.heap.size) (fun i _=>zn - (vI i).toNat)
   case atStart=>exact⟨0,rfl,go _,by simpa using PM,by simpa using L7,Ih.out,PL,Fb,PN⟩
   case round =>
    clear PL Fb PM L7 PN;obtain⟨jj,rfl,Vd,mS,mM,bG,k2,s1,L9⟩:=hrel;obtain⟨O,hO⟩ : ∃ O,O=q1k (qx m) x.cl k++(oF (qx m) x.cl k).take jj:=⟨_,rfl⟩
    rw[<-hO] at mS mM;have HO:=lhd hO;clear hO;by_cases dS:jj < zn
    ·obtain⟨r,hr⟩ : ∃ r,ys[jj]? = some r:=⟨_,g8 (by rw[PK.out];exact dS)⟩
     obtain⟨_,_,_,h5,h6⟩:=(HY.out.1 wr bG.out).open;obtain⟨ay,rfl⟩:=sadq h5 (by omega)
     obtain⟨e0,e1⟩:=zw ys jj r hr;have r0:wr.cell? (ay.add (jj*2))=some (.int .i64 r.c):=h6 ay rfl _ _ e0;have r1:wr.cell? ⟨(ay.add (jj*2)).block,(ay.add (jj*2)).off+1,none⟩=some (.int .i64 r.g):=by rw[qi _ _ _ (by omega)];exact h6 ay rfl _ _ e1
     obtain⟨PO,kA⟩:=HY.out.2.2.2 r (gh hr);have Ct:=yx PO;obtain⟨rg,Bi⟩ : ∃ rg,rg=r.g:=⟨_,rfl⟩
     rw[<-Bi] at r1 kA;obtain⟨pr,fF⟩ : ∃ pr,pr=sg*rg:=⟨_,rfl⟩
     have mF : -1<=pr/\pr<=1:=by rw[fF];rcases Fc with h | h <;> rcases kA with h' | h' <;> rw[h,h'] <;> decide
     have yL:wrap64 (sg*rg)=pr:=by rw[<-fF];exact IntWalk.wrap64_in _ (by omega)
     have PQ:IntKind.i64.wrap (sg*rg)=pr:=(IntWalk.i64_left _).trans yL;have lK:O.length<=4096+64:=by rw[HO.out,gc,gd];have h1:=qb3 (x:=x.cl) HX.out.2.2.1 k;have h2:=qio (x:=x.cl) HX.out.2.2.1 k;omega
     have PR:∀ p∈O,-1<=p.2.2/\p.2.2<=1:=fun p hp=>by
      rw[HO.out] at hp;rcases gF.1 hp with hp | hp
      ·exact qlf HX.out.1 HX.out.2.2.1 k p hp
      ·exact qmm HX.out.1 HX.out.2.2.1 k p (gI hp)
     obtain⟨S,hS⟩ : ∃ S,S=q0c O r.c:=⟨_,rfl⟩
     have mG : -(4160:Int)<=S/\S<=4160:=by rw[hS];have:=qcm O PR r.c;omega
     have yM:wrap64 (S+pr)=S+pr:=IntWalk.wrap64_in _ (by omega);have PS:IntKind.i64.wrap (S+pr)=S+pr:=(IntWalk.i64_left _).trans yM;have PT:q1k (qx m) x.cl k++(oF (qx m) x.cl k).take (jj+1)=O++[(r.c,k,pr)]:=by rw[HO.out,gq,<-gC,HY.out.2.1,List.getElem?_map,hr];show _++[(r.c,k,s.g*r.g)]=_;rw[fF,Bh.out,Bi]
     obtain⟨R,hR⟩ : ∃ R,R=wr.alloc (.cells #[.int .i64 r.c,.int .i64 rg] 108):=⟨_,rfl⟩
     have yN:BwQ wr R:=by rw[hR];exact bal wr _
     have Vs:R.heap.size=wr.heap.size+1:=by rw[hR];simp
     have PU:R.cell? ⟨wr.heap.size,0,none⟩=some (.int .i64 r.c):=by rw[hR];exact qd wr _ _ (0,0) 0
     have LC:(Instr.lookup 122 (.map (some BU)) (.int .i64 r.c) false).run Tryz.prog R = .ok (.int .i64 S) R:=by
      have:=(mS.q8 yN).look PO
      rwa [<-hS] at this
     rw[hR] at LC;obtain⟨gS,AW,vO⟩:=mS.q8 yN;have PV:O.length < maxLen:=by unfold maxLen;omega
     have PW:R.cell? ⟨bs,1,none⟩=some (.int .i64 sg):=Cx.q8 yN s1;have PX:=Cx.q8 yN k2;obtain⟨g,vm,Ia,a2,a3,Ef,a5,a6⟩:=mM;have Bj:∀ c b,(vm c).ownBlock=some b->base<=b/\b < wr.heap.size:=fun c b h=>(Ef c).lt b h
     have PY:=Ia.q8 yN;have PZ:=fun c=>qa (Ef c) yN
     have HJ:=lhd (aiq hS (aiq vO (aiq PT (aiq yN (aiq lK Vs)))));have Vu:bs < wr.heap.size:=World.block_lt_of_cell? wr ⟨bs,1,none⟩ s1;clear h5 h6 e0 e1 hr Bi kA fF mF yL yM PR hS mG PT yN vO mS Ia Ef lK;go_wp2_with (first
      |(at_mapUpdate;rw[<-hR];clear hR;refine q1z rfl _ _ _ 122 rfl AW Tryz.underlying3 Tryz.underlying122 PV r.c _ rfl rfl rfl Ct ?_)
      | fail)
     intro w3 kN iE;have LD:=iE.size;have Fe:MpI w3 BU (O.length+1) (pu (q0c O) r.c (S+pr)):=MpI.q6j HJ.out.2.1 kN;have LF:w3.cell? ⟨wr.heap.size,0,none⟩=some (.int .i64 r.c):=ql iE PU (fun k e=>by cases e;show wr.heap.size≠BU;omega);have Qa:w3.cell? ⟨bs,1,none⟩=some (.int .i64 sg):=ql iE PW (fun k e=>by cases e;show bs≠BU;omega);have Qb:w3.cell? ⟨bx,2,none⟩=some (.slice (some ad) x.n x.c):=ql iE PX (fun k e=>by cases e;show bx≠BU;omega);have ar:BwQ w w3:=((btr bG.out HJ.out.2.2.2.1)).grown iE (by have:=bG.out.size;rw[HJ.out.2.2.2.2.2];omega) (fun k e=>by cases e;omega);rw[HJ.out.2.2.2.2.2] at LD;have a1:Mp Tryz.prog 3 w3 BM O.length g:=PY.kept iE (fun e=>by cases e;omega);have a4:∀ c,w3.ownsRow base 3 1 (vm c) (plO O c).length (ints (plO O c)):=fun c=>(PZ c).kept iE (by
      cases ho:(vm c).ownBlock with
      | none=>exact .inl rfl
      | some b=>exact .inr fun e=>by have:=(Bj c b ho).1;injection e with e;omega)
     obtain⟨vr,Bk⟩ : ∃ vr,vr=vm r.c:=⟨_,rfl⟩
     have lQ:∀ X:World,Mp Tryz.prog 3 X BM O.length g->(Instr.lookup 215 (.map (some BM)) (.int .i64 r.c) false).run Tryz.prog X = .ok vr X:=fun X hX=>by have:=hX.look Tryz.underlying3 Tryz.underlying215 (q42 X) Ct;rw[this,a2 r.c,Bk]
     have AI:=lQ w3.drew a1;have sM:=lQ (w3.drew.alloc (.cells #[.int .i64 k] 3)) (Mp.alloc (w:=w3.drew) a1 _);have xP:=lQ (w3.alloc (.cells #[.int .i64 k] 3)).drew (Mp.alloc a1 _);have aA:w3.ownsRow base 3 1 vr (plO O r.c).length (ints (plO O r.c)):=by rw[Bk];exact a4 r.c
     have Zf:(w3.drew.alloc (.cells #[.int .i64 k] 3)).cell? ⟨wr.heap.size,0,none⟩=some (.int .i64 r.c):=qk (w:=w3.drew) LF _;have Zg:(w3.alloc (.cells #[.int .i64 k] 3)).cell? ⟨wr.heap.size,0,none⟩=some (.int .i64 r.c):=qk LF _;obtain⟨i0,hi0,aF,bR,bV⟩:=info_parts Tryz.xg;have cm:(plO O r.c).length<=4160:=gl (qle O r.c) (by have:=HJ.out.2.2.2.2.1;omega);have LG:O.length < maxLen:=PV;have HK:=lhd (aiq Fe (aiq Qa (aiq Qb (aiq ar (aiq a1 (aiq a2 (aiq a3 (aiq a4 (aiq a5 (aiq a6 Bk))))))))));have Vv:∀ b,vr.ownBlock=some b->b≠BM:=fun b e=>(a6 r.c b (by rw[<-Bk,e])).1
     have Vw:∀ b,vr.ownBlock=some b->b≠bs:=fun b e=>(a6 r.c b (by rw[<-Bk,e])).2
     have Vx:∀ b,vr.ownBlock=some b->b < wr.heap.size:=fun b e=>(Bj r.c b (by rw[<-Bk,e])).2
     have V4:=lhd LF;clear kN iE Fe Qa Qb ar a1 a2 a3 a4 a5 a6 Bk lQ PU PW PX PY PZ AW Bj;go_upto_region 9 with fail
     go_region_law (first
      |(refine step_append_lies _ rfl _ _ 22 rfl base 3 i0 _ 1 8 Tryz.underlying22 hi0 aF bR bV rfl (by decide) _ _ _ rfl ((World.ownsRow.drew aA).alloc _) ⟨w3.heap.size,0,none⟩ 1 1 [.int .i64 k] rfl rfl (q7l w3.drew 3 [.int .i64 k]) (q5v _) (by decide) (by unfold maxLen;omega) (by omega) (by simp;omega) _ rfl ?_;intro g2 cg w6 bH au eh iq;have rJ:Mp Tryz.prog 3 w6 BM O.length g:=(Mp.alloc (w:=w3.drew) HK.out.2.2.2.2.1 _).kept au (fun e=>Vv BM e.symm rfl);have Zh:w6.cell? ⟨wr.heap.size,0,none⟩=some (.int .i64 r.c):=ql au (qk (w:=w3.drew) V4.out _) (fun kk h=>by have:=Vx kk h;show wr.heap.size≠kk;omega);have F6:=lhd (aiq bH (aiq au (aiq eh iq)));obtain⟨w7,fe,kF,dD⟩:=Mp.set rJ Tryz.underlying3 Tryz.underlying215 LG Ct (.slice (some ⟨g2,0,none⟩) ((plO O r.c).length+1) cg);have F7:=lhd (aiq kF dD);clear bH au eh iq kF dD))
     all_goals
      go_wp2;go_roundw
      case measure=>simp[vI];omega
      case rel =>
       obtain⟨bH,fP,eh,iq⟩:=F6.out;have au:(w3.drew.alloc (.cells #[.int .i64 k] 3)).grownBy w6 vr.ownBlock:=fP;obtain⟨kF,dD⟩:=F7.out;obtain⟨b1,b2,b3,b4,b5,b6,b7,b8,b9,sJ,uw⟩:=HK.out;have te:BwQ w3 (w3.drew.alloc (.cells #[.int .i64 k] 3)):=(qb (Below.refl _ w3) 1).alloc (nlr _) _;have qC:(w3.drew.alloc (.cells #[.int .i64 k] 3)).grownBy w6 (vm r.c).ownBlock:=by rw[<-uw];exact au
       have ae:∀ kk,vr.ownBlock=some kk->base<=kk:=fun kk h=>(aA.lt kk h).1
       have V5:=au.size;have Qc:(w3.drew.alloc (.cells #[.int .i64 k] 3)).heap.size=w3.heap.size+1:=World.size_alloc _ _;have qS:=dD.size;rw[Qc] at V5;have LH:∀ p:Addr,∀ u,p.block < base->p.block≠BM->w3.cell? p=some u->w7.cell? p=some u:=fun p u hp nk hu=>ql dD (ql au (Cx.q8 te hu) (fun kk h=>by have:=ae kk h;omega)) (fun kk e=>by cases e;exact nk)
       have Ex:Rws w7 base BM (fun b=>b=bs) (O.length+1) (q1r (plO O) r.c k):=Rws.app b5 b6 b7 b8 b9 sJ (fun b h=>by subst h;omega) r.c k te g2 cg _ qC bH (by rw[<-uw];rcases eh with h | h;exact .inl h;exact .inr h) kF dD;have V6:MpI w7 BU (O.length+1) (pu (q0c O) r.c (S+pr)):=by obtain⟨gg,c1,c2⟩:=b1;exact⟨gg,((c1.q8 te).kept au (fun e=>by have:=ae BU e.symm;omega)).kept dD (fun e=>by cases e;omega),c2⟩
       have fb:BwQ w w7:=(((btr b4 te)).grown au (by have:=b4.size;rw[Qc];omega) (fun kk h=>by have:=ae kk h;omega)).grown dD (by have:=b4.size;omega) (fun kk e=>by cases e;omega);have e1:=HJ.out.2.2.1;refine⟨jj+1,qh (by omega),by omega,?_,?_,fb,LH ⟨bx,2,none⟩ _ (by show bx < base;omega) (by show bx≠BM;omega) b3,?_,by omega⟩
       ·rw[e1,qfq,gc,<-HJ.out.1];exact V6
       ·rw[e1,qim,gc];exact Ex
       ·exact ql dD (ql au (Cx.q8 te b2) (fun kk h=>fun e=>Vw kk h e.symm)) (fun kk e=>by cases e;show bs≠BM;omega)
    ·have dM:(oF (qx m) x.cl k).take jj=oF (qx m) x.cl k:=gm (by rw[HY.out.2.1,gn,PK.out];omega);have Qd:O=q1k (qx m) x.cl (k+1):=by rw[HO.out,dM,q80]
     rw[Qd] at mS mM;have Iy:=mM.qb1 (Av':=fun _=>False) (fun b h=>h.elim);have HJ:=lhd (aiq mS Iy);clear dM Qd mS mM Iy;go_wp2_with fail;go_roundw
     case measure=>simp[vI];omega
     case rel=>exact⟨k+1,qh (by omega),by omega,HJ.out.1,HJ.out.2,bG.out,k2,L9⟩
  ·have bE:q1k (qx m) x.cl k=occ (qx m) x.cl:=by
    rw[<-qb2]
    congr 1
    have:=HX.out.2.2.2;show k=x.s.length;omega
   rw[bE] at mS mM;clear bE;have Zi:BU < wr.heap.size:=mS.lt;obtain⟨gS,AW,vO⟩:=mS;obtain⟨D,ah,hD⟩:=AW;have AS:=int_keyed (P:=Tryz.prog) (k:=3) Tryz.underlying3;obtain⟨o,ho⟩ : ∃ o,o=occ (qx m) x.cl:=⟨_,rfl⟩
   rw[<-ho] at vO ah mM;have HO:=lhd ho;have Is:=lhd vO;obtain⟨no,et⟩ : ∃ no,no=o.length:=⟨_,rfl⟩
   rw[<-et] at ah mM;have yO:=lhd et;have V7:no<=4096:=by rw[et,ho,<-qb2];have:=qb3 (x:=x.cl) HX.out.2.2.1 x.cl.s.length;have:x.cl.s.length<=64:=HX.out.1.1;omega
   clear ho vO et;go_wp2_with (first
    |(at_range;refine wpList_range_own _ rfl _ 122 rfl 3 3 AS Tryz.underlying122 hld BU no D rfl ah ?_;intro wq oK uE qN)
    | go_in)
   go_frame
   obtain⟨r,hr⟩ : ∃ r,r=wr.heap.size:=⟨_,rfl⟩
   rw[<-hr] at oK ⊢;have AK:base<=r:=by omega
   have qY:BwQ wr wq:=⟨uE.os,uE.tape,uE.output,uE.size,fun b hb=>uE.block b hb (by simp)⟩
   have V8:=(mM.q8 qY).qb1 (Av':=fun _=>False) (fun b h=>h.elim);have Qe:Rws wq base BM (fun b=>b=r) no (plO o):=(mM.qb1 (Av':=fun b=>b=r) (fun b h=>.inl (by omega))).q8 qY;have Qf:=Cx.q8 qY k2;have V9:=lhd ((btr HB.out qY));have Qg:Hid (Hg D gS):=hD;have Qh:base<=wq.heap.size:=gl kB qY.size;clear hr mM k2 qY ah hD uE qN V8 HB;go_loopw [12] (fun _ wr=>∃ (left:Lit->Bool) (nU:Nat),wr.ranges Tryz.prog 3 hld BU r no D left nU/\Hid (∀ c,(gS c).isSome=true->left (.int .i64 c)=false->q0c o c=0)/\Rws wr base BM (fun b=>b=r) no (plO o)/\Hid (BwQ w wr)/\wr.cell? ⟨bx,2,none⟩=some (.slice x.a x.n x.c)/\base<=wr.heap.size) (fun _ wr=>wr.rangeLeft BU r)
   case atStart=>exact⟨_,_,oK,(show Hid _ from fun c hc hl=>by have:=(Qg.out c).1;rw[hl,hc] at this;cases this),Qe,V9.out,Qf,Qh⟩
   case round =>
    clear oK Qe Qf Qh;obtain⟨left,nU,kA,HF,mM,HB,k2,kB⟩:=hrel;have CO:=lhd kA;go_wp2_with (first
     |(at_next;refine wpList_next_ranges _ rfl _ rfl 3 AS hld (Value.int .i64) (fun v:Value=>v) (fun key kl aq=>by obtain⟨x,rfl,_⟩:=Maps.keyOf_int_inv Tryz.underlying3 aq;exact⟨x,rfl⟩) (fun v y _=>⟨v,rfl⟩) BU r no D left nU rfl kA ?_ ?_)
     | go_in)
    ·intro fD fB;have aG:∀ c,q0c o c=0:=fun c=>by
      cases hg:gS c with
      | some v=>exact HF.out c (by rw[hg];rfl) (fB _)
      | none =>
       have:=Is.out c;rw[hg] at this;have h2:Value.int .i64 0 = .int .i64 (q0c o c):=this;injection h2 with _ h2
       exact h2.symm
     have lN:=lhd aG;have Iy:=mM.qb1 (Av':=fun _=>False) (fun b h=>h.elim);clear fD fB aG mM kA;obtain⟨g,vm,a1,a2,a3,a4,a5,a6⟩:=Iy;obtain⟨W4,nV⟩ : ∃ W4,W4=(wr.alloc (.map #[] 0)).alloc (.cells #[.map (some wr.heap.size)] 215):=⟨_,rfl⟩
     have aD:BwQ wr W4:=by rw[nV];exact(bal wr _).alloc (by simp) _
     have qJ:W4.heap.size=wr.heap.size+2:=by rw[nV];simp
     have j0:W4.cell? ⟨wr.heap.size+1,0,none⟩=some (.map (some wr.heap.size)):=by rw[nV];have:=qd (wr.alloc (.map #[] 0)) #[.map (some wr.heap.size)] 215 (0,0) 0;(try simp only[BwQ] at this);rw[World.size_alloc] at this;exact this
     have mJ:Rws W4 (wr.heap.size+3) wr.heap.size (fun _=>False) 0 (fun _=>[]):=by rw[nV];exact(Rws.made wr (wr.heap.size+3) (fun _=>False)).q8 (bal _ _)
     obtain⟨D4,nf,Qi⟩:=a1.q8 aD;have LI:BM < wr.heap.size:=a1.lt;have HA:=lhd (aiq a2 (aiq a3 (aiq a4 (aiq a5 (aiq a6 aD)))));have Qj:=Cx.q8 aD k2;have pN:=lhd ((btr HB.out aD));have VA:=lhd qJ;clear a1 a2 a3 a4 a5 a6 aD k2 HB qJ;go_wp2_with (first
      |(at_range;rw[<-nV];clear nV;refine wpList_range_own _ rfl _ 215 rfl 3 22 AS Tryz.underlying215 hld BM no D4 rfl nf ?_;intro CS Bl Bm jG)
      | go_in)
     try go_frame
     have qJ:=VA.out;obtain⟨BJ,LJ⟩ : ∃ b,b=wr.heap.size:=⟨_,rfl⟩
     obtain⟨pJ,Qk⟩ : ∃ b,b=wr.heap.size+1:=⟨_,rfl⟩
     obtain⟨r4,cD⟩ : ∃ b,b=W4.heap.size:=⟨_,rfl⟩
     obtain⟨aU,tg⟩ : ∃ b,b=wr.heap.size+3:=⟨_,rfl⟩
     rw[<-tg] at mJ;rw[<-Qk] at j0 ⊢;rw[<-LJ] at j0 mJ;rw[<-cD] at Bl ⊢;have uF:Gs (fun _=>False) W4 CS:=(Gs.refl _ W4).grown Bm (fun k e=>by cases e);have qZ:BwQ W4 CS:=⟨Bm.os,Bm.tape,Bm.output,Bm.size,fun b hb=>Bm.block b hb (by simp)⟩
     have Ql:=mJ.q8 qZ;have Qm:=Cx.q8 qZ j0;have VB:=Cx.q8 qZ Qj;have re:=lhd ((btr pN.out qZ));have yP:base<=BJ/\BJ < pJ/\pJ < r4/\r4 < aU/\aU<=CS.heap.size/\BM < BJ:=by omega
     have LK:Hid (Hg D4 g):=Qi;have kW:=lhd (aiq HA.out (aiq qZ (aiq LJ cD)));have VC:=nf.size_le;clear cD LJ Qk tg mJ j0 Qj nf Qi Bm jG qJ HA pN qZ uF LI;go_loopw [15] (fun _ wr=>∃ (left:Lit->Bool) (nU nn:Nat) (jl:Int->List Int),wr.ranges Tryz.prog 3 hld BM r4 no D4 left nU/\Rws wr aU BJ (fun _=>False) nn jl/\nn+2*nU<=2*no/\Hid (∀ i,(jl i).length<=nn) ∧
      Hid (∀ i k,k∈jl i↔∃ c,(g c).isSome=true/\left (.int .i64 c)=false/\(plO o c=[i,k]\/plO o c=[k,i]))/\Hid (∀ c,(g c).isSome=true->left (.int .i64 c)=false->(plO o c).length=2)/\Gs (fun b=>b=BJ\/b=r4\/aU<=b) CS wr) (fun _ wr=>wr.rangeLeft BM r4)
     case atStart =>
      refine⟨_,_,0,fun _=>[],Bl,Ql,by omega,(show Hid _ from fun i=>nlr _),(show Hid _ from fun i k=>⟨(fun h=>by cases h),fun ⟨c,h1,h2,_⟩=>?_⟩),(show Hid _ from fun c h1 h2=>?_),Gs.refl _ _⟩
      ·have:=(LK.out c).1;rw[h1,h2] at this;cases this
      ·have:=(LK.out c).1;rw[h1,h2] at this;cases this
     case round =>
      clear Bl Ql;obtain⟨left,nU,nn,jl,kA,mJ,uv,CT,Ff,Fg,hG⟩:=hrel;have LM:=lhd kA;go_wp2_with (first
       |(at_next;refine wpList_next_ranges _ rfl _ rfl 3 AS hld (Value.int .i64) (fun v:Value=>v) (fun key kl aq=>by obtain⟨x,rfl,_⟩:=Maps.keyOf_int_inv Tryz.underlying3 aq;exact⟨x,rfl⟩) (fun v y _=>⟨v,rfl⟩) BM r4 no D4 left nU rfl kA ?_ ?_)
       | go_in)
      ·intro fD fB;go_wp2_with fail;obtain⟨W5,rP⟩ : ∃ W,W=((wr.alloc (.map #[] 0)).alloc (.cells #[.map (some wr.heap.size)] 65)).alloc (.cells #[.nilFunc] 216):=⟨_,rfl⟩
       rw[<-rP];have VD:aU<=wr.heap.size:=gl yP.2.2.2.2.1 hG.size;have k1:W5.cell? ⟨wr.heap.size+1,0,none⟩=some (.map (some wr.heap.size)):=by rw[rP];have:=qd (wr.alloc (.map #[] 0)) #[.map (some wr.heap.size)] 65 (0,0) 0;(try simp only[BwQ]at this);simp only [World.size_alloc] at this;exact qk this _
       have k3:W5.cell? ⟨wr.heap.size+1+1,0,none⟩=some .nilFunc:=by rw[rP];have:=qd ((wr.alloc (.map #[] 0)).alloc (.cells #[.map (some wr.heap.size)] 65)) #[.nilFunc] 216 (0,0) 0;(try simp only[BwQ]at this);simp only [World.size_alloc] at this;exact this
       have f3:W5.frozen? ⟨wr.heap.size+1+1,0,none⟩=false:=by rw[rP];have:=jz (heap_alloc_new ((wr.alloc (.map #[] 0)).alloc (.cells #[.map (some wr.heap.size)] 65)) (.cells #[.nilFunc] 216)) 0;(try simp only[BwQ]at this);simp only [World.size_alloc] at this;exact this
       have kS:Mp Tryz.prog 3 W5 wr.heap.size 0 (sG (fun _=>false)):=by
        rw[rP];have h:Mp Tryz.prog 3 (wr.alloc (.map #[] 0)) wr.heap.size 0 (sG (fun _=>false)):=by
         have:=Mp.made (P:=Tryz.prog) (k:=3) wr;have e:(fun _=>none)=sG (fun _=>false):=by funext c;simp[sG]
         rw[<-e];exact this
        exact Mp.alloc (Mp.alloc h _) _
       have aB:BwQ wr W5:=by rw[rP];exact((bal wr _).alloc (by simp) _).alloc (by simp;omega) _
       have Qn:W5.cell? ⟨pJ,0,none⟩=some (.map (some BJ)):=Cx.q8 aB (hG.cell (show ¬ (pJ=BJ\/pJ=r4\/aU<=pJ) from by omega) Qm);have Qo:W5.cell? ⟨bx,2,none⟩=some (.slice x.a x.n x.c):=Cx.q8 aB (hG.cell (show ¬ (bx=BJ\/bx=r4\/aU<=bx) from by omega) VB);obtain⟨SE,EL⟩ : ∃ p,p=wr.heap.size:=⟨_,rfl⟩
       obtain⟨p1,nQ⟩ : ∃ p,p=wr.heap.size+1:=⟨_,rfl⟩
       obtain⟨p3,EK⟩ : ∃ p,p=wr.heap.size+1+1:=⟨_,rfl⟩
       rw[<-EK] at k3 f3 ⊢;rw[<-nQ] at k1 ⊢;rw[<-EL] at k1 kS;have al:wr.heap.size<=SE/\SE < p1/\p1 < p3/\pJ < SE/\bx < SE:=by omega
       obtain⟨fv,AX⟩ : ∃ fv,fv=Value.func (.func 197) #[] #[.pointer (some ⟨p1,0,none⟩),.pointer (some ⟨pJ,0,none⟩),.pointer (some ⟨p3,0,none⟩)]:=⟨_,rfl⟩
       have az:(store ⟨p3,0,none⟩ (Value.func (.func 197) #[] #[.pointer (some ⟨p1,0,none⟩),.pointer (some ⟨pJ,0,none⟩),.pointer (some ⟨p3,0,none⟩)])).run Tryz.prog W5 = .ok () (W5.setCell ⟨p3,0,none⟩ fv):=by rw[AX,run_store _ _ _ _ _ rfl,k3,f3];rfl
       obtain⟨V,hV⟩ : ∃ V,V=W5.setCell ⟨p3,0,none⟩ fv:=⟨_,rfl⟩
       rw[<-hV] at az;have v1:V.cell? ⟨p1,0,none⟩=some (.map (some SE)):=by rw[hV];exact xe k1 (by show p1≠p3;omega)
       have v2:V.cell? ⟨pJ,0,none⟩=some (.map (some BJ)):=by rw[hV];exact xe Qn (by show pJ≠p3;omega)
       have vx:V.cell? ⟨bx,2,none⟩=some (.slice x.a x.n x.c):=by rw[hV];exact xe Qo (by show bx≠p3;omega)
       have v3:V.cell? ⟨p3,0,none⟩=some (Value.func (.func 197) #[] #[.pointer (some ⟨p1,0,none⟩),.pointer (some ⟨pJ,0,none⟩),.pointer (some ⟨p3,0,none⟩)]):=by rw[hV,AX];exact World.cell?_setCell_same' _ _ _ (by rw[k3];rfl)
       have aN:BwQ wr V:=by rw[hV];exact aB.setCell (show wr.heap.size<=p3 by omega) _
       have EM:Mp Tryz.prog 3 V SE 0 (sG (fun _=>false)):=by rw[hV];exact kS.setCell (by show SE≠p3;omega) _
       have lO:Vj wr V BJ SE p1 pJ p3:=⟨aN,by omega,⟨by omega,by omega,by omega⟩,v1,v2,v3⟩
       have aR:BwQ w wr:=re.out.trans (hG.below re.out.size (fun b hb=>by have:=re.out;rcases hb with h | h | h <;> omega));obtain⟨gj,vj,a1,a2,a3,a4,a5,a6⟩:=mJ;obtain⟨⟨Fh,qT⟩,dV,hT,fE⟩:=HX.out;have CU:∀ i k,k∈jl i↔∃ c,plO o c=[i,k]\/plO o c=[k,i]:=fun i k=>by
        rw[Ff.out i k];constructor
        ·rintro ⟨c,_,_,h⟩;exact⟨c,h⟩
        ·rintro ⟨c,h⟩;exact⟨c,(kW.out.1.2.1 c).2 (by rcases h with h | h <;> rw[h] <;> simp),fB _,h⟩
       have Fi:∀ c,plO o c≠[]->(plO o c).length=2:=fun c h=>Fg.out c ((kW.out.1.2.1 c).2 h) (fB _)
       have af:=qld a1 a2 (fun i=>Sl.qc (a4 i)) (fun i=>by have:=CT.out i;omega) ((List.range x.s.length).map fun k:Nat=>(k:Int)) (fun i _ k hk=>by obtain⟨c,h⟩:=(CU i k).1 hk;obtain⟨k',rfl,uh⟩:=q9a (T:=qx m) (x:=x.cl) (c:=c) (i:=k) (by rw[<-HO.out];rcases h with h | h <;> rw[h] <;> simp);exact gr.2 ⟨k',gD.2 uh,rfl⟩)
        (fun i hi=>by obtain⟨k',uh,rfl⟩:=gr.1 hi;have:=gD.1 uh;unfold I64;omega) (-1) (fun h=>by obtain⟨k',_,e⟩:=gr.1 h;omega)
        SE p1 pJ p3 _ 0 0 (fun _=>false) V (nlr _) lO EM (gr.2 ⟨0,gD.2 dV,rfl⟩) (by
         have h:mu ((List.range x.s.length).map fun k:Nat=>(k:Int)) (fun _=>false)<=((List.range x.s.length).map fun k:Nat=>(k:Int)).length:=gQ _ _;have h2:((List.range x.s.length).map fun k:Nat=>(k:Int)).length=x.s.length:=by simp
         omega)
       have HC:=lhd af;have HV:=lhd (aiq aR (aiq aN (aiq al (aiq CU (aiq Fi (aiq dV (aiq fE lO)))))));have VE:=lhd vx;clear rP nQ EK EL k1 k3 f3 kS aB Qn Qo af lO EM aN hV AX aR a1 a2 a3 a4 a5 a6 Fh qT dV hT fE CU Fi v1 v2 vx;rw[az];go_wp2_with fail;refine HC.out.mono ?_;rintro e w5 ⟨rfl,CQ,k',dW,Qp,Dv,oq,uh,C9⟩;obtain⟨aR,aN,zS,CU,Fi,dV,fE,lO⟩:=HV.out;obtain⟨L,Qq,uG,hlen⟩:=qo5 Qp;have yQ:=lO.gs CQ;have y1:w5.cell? ⟨p1,0,none⟩=some (.map (some SE)):=yQ.c1;have y2:w5.cell? ⟨bx,2,none⟩=some (.slice x.a x.n x.c):=CQ.cell (show ¬ (bx=SE) from by omega) VE.out;have hR:=qcn (T:=qx m) (x:=x.cl) HO.out lN.out Fi dV (S:=fun d=>dW d=true) Qq uG oq (J:=fun a b=>b∈jl a) CU (fun d hd=>ka.reach (fun _ h=>by cases h) Dv oq hd)
        (fun d hd=>(C9 d hd).elim (fun h=>by cases h) id)
       have Bn:BwQ w w5:=aR.trans ((aN.mono aR.size).trans (CQ.below (gl aR.size aN.size) (fun b hb=>by rw[hb];have:=aR.size;omega)));have rf:=lhd (aiq hR (aiq Bn fE));clear Qp Dv oq uh C9 lO yQ Qq uG CU Fi dV hR Bn aR aN CQ;by_cases pB:L.length=x.n
       ·have fW:((L.length:Int) != (x.n:Int))=false:=by rw[pB];simp
        have A5:=lhd pB;clear pB fE;go_wp2_with fail;go_ret;refine⟨?_,rf.out.2.1⟩;rw[rf.out.1.trans (if_pos (A5.out.trans rf.out.2.2.symm))];rfl
       ·have fW:((L.length:Int) != (x.n:Int))=true:=by simp;omega
        have A5:=lhd pB;clear pB fE;go_wp2_with fail;go_ret;refine⟨?_,rf.out.2.1⟩;rw[rf.out.1.trans (if_neg (fun e=>A5.out (e.trans rf.out.2.2)))];rfl
      ·intro nx cv kl y1 y2 w2 vM aq db hv cL nm hlt dt iM nY;obtain⟨x',nh,rfl,CP⟩:=Maps.keyOf_int_inv Tryz.underlying3 aq;have ED:nx=x':=by injection nh
       subst ED;have hv2:y1 = .held cv:=by have:hld cv=some (.held cv,[]):=rfl;rw[this] at hv;injection hv with hv;injection hv with hv _;exact hv.symm
       subst hv2;have np:=LK.out.qh3 cL;have Dq:cv=vm nx:=by have:=kW.out.1.1 nx;rw[np] at this;exact this
       subst Dq;have dF:Gs (fun b=>b=BJ\/b=r4\/aU<=b) CS w2:=hG.grown dt (fun k e=>by cases e;exact .inr (.inr (.inl rfl)));have aA:=kW.out.1.2.2.1 nx;have lE:=fun b (h:(vm nx).ownBlock=some b)=>(aA.lt b h).2
       have dy:Sl w2 1 (vm nx) (ints (plO o nx)):=dF.sl (((Sl.qc aA).q8 kW.out.1.2.2.2.2.2).q8 kW.out.2.1) (fun ad n c e al=>by
        have hlt:ad.block < BJ:=by rw[kW.out.2.2.1];exact qe6 (Sl.qc aA) e al
        intro h;rcases h with h | h | h <;> omega)
       have al:plO o nx≠[]:=(kW.out.1.2.1 nx).1 (by rw[np];rfl);obtain⟨va,vn,vc,vN⟩:=qg dy;have Fj:∀ ad,va=some ad->ad.block < BJ:=fun ad e=>by rw[kW.out.2.2.1];exact qe6 (Sl.qc aA) (by rw[vN,e]) (by obtain⟨y,ys,hy⟩:=List.exists_cons_of_ne_nil al;rw[hy];exact fun h=>by cases h)
       rw[vN] at dy nY;have ui:(plO o nx).length=vn:=by obtain⟨_,_,h3,_⟩:=dy.open;rw[xl] at h3;omega
       have EE:(Instr.entry (.pointer (some ⟨r4,0,none⟩))).run Tryz.prog w2 = .ok (.tuple #[.int .i64 nx,.slice va vn vc]) w2:=nY;have VF:Rws w2 aU BJ (fun _=>False) nn jl:=mJ.grown dt (by omega) (by omega);have ct:=lhd (aiq nm (aiq hlt (aiq np (aiq db (aiq ui dy)))));clear aq db hv cL nm hlt np nh CP nY kA aA lE al vN dt iM dy mJ hG;by_cases hv2:vn=2
       ·subst hv2;obtain⟨aa,bb,dr⟩ : ∃ aa bb,plO o nx=[aa,bb]:=by
         have h:=ct.out.2.2.2.2.1
         match cm:plO o nx,h with
         | [a,b],_=>exact⟨a,b,rfl⟩
        obtain⟨_,_,_,h5,h6⟩:=ct.out.2.2.2.2.2.open;obtain⟨ad,rfl⟩:=sadq h5 (by omega)
        have VG:w2.cell? (ad.add 0)=some (.int .i64 aa):=h6 ad rfl 0 _ (by rw[dr];rfl);have l1:w2.cell? ⟨ad.block,ad.off+1,none⟩=some (.int .i64 bb):=h6 ad rfl 1 _ (by rw[dr];rfl);clear h5 h6;go_upto_region 23 with fail;have VH:ad.block < BJ:=Fj ad rfl;have l0:w2.cell? ad=some (.int .i64 aa):=by have:=VG;rwa [show ad.add 0=ad from by unfold Addr.add;rfl] at this
        have j2:w2.cell? ⟨pJ,0,none⟩=some (.map (some BJ)):=dF.cell (show ¬ (pJ=BJ\/pJ=r4\/aU<=pJ) from by omega) Qm;have VI:I64 aa:=(qeb HO.out HX.out.1.1 (by rw[dr];simp))
        have Fl:I64 bb:=(qeb HO.out HX.out.1.1 (by rw[dr];simp))
        have Fo:=yx VI;have Fp:=yx Fl;have rh:=CT.out;have VJ:nn+2<=2*no:=by have:=ct.out.2.1;omega
        have LN:aU<=w2.heap.size:=gl yP.2.2.2.2.1 dF.size;obtain⟨i0,hi0,aF,bR,bV⟩:=info_parts Tryz.xg;obtain⟨gA,Qr,Iz,LO,Qs,LP,Qt,Qu⟩:=VF;obtain⟨I0,vR⟩ : ∃ vr,vr=Qr aa:=⟨_,rfl⟩
        have lQ:∀ X:World,Mp Tryz.prog 3 X BJ (nn) gA->(Instr.lookup 215 (.map (some BJ)) (.int .i64 aa) false).run Tryz.prog X = .ok I0 X:=fun X hX=>by have:=hX.look Tryz.underlying3 Tryz.underlying215 (q42 X) Fo;rw[this,LO aa,vR]
        have VK:=lQ w2.drew Iz;have VL:=lQ (w2.drew.alloc (.cells #[.int .i64 bb] 3)) (Mp.alloc (w:=w2.drew) Iz _);have VM:=lQ (w2.alloc (.cells #[.int .i64 bb] 3)).drew (Mp.alloc Iz _);have yR:w2.ownsRow aU 3 1 I0 (jl aa).length (ints (jl aa)):=by rw[vR];exact LP aa
        have th:∀ b,I0.ownBlock=some b->aU<=b:=fun b h=>(yR.lt b h).1
        have Zj:(w2.alloc (.cells #[.int .i64 bb] 3)).cell? ad=some (.int .i64 aa):=qk l0 _;have Zk:(w2.alloc (.cells #[.int .i64 bb] 3)).cell? ⟨ad.block,ad.off+1,none⟩=some (.int .i64 bb):=qk l1 _;have Zl:(w2.alloc (.cells #[.int .i64 bb] 3)).cell? ⟨pJ,0,none⟩=some (.map (some BJ)):=qk j2 _;have VN:(jl aa).length<=8192:=by have:=rh aa;omega
        have LQ:nn < maxLen:=by unfold maxLen;omega
        have Fq:=lhd (aiq Iz (aiq LO (aiq Qs (aiq LP (aiq Qt (aiq Qu (aiq vR (aiq l0 (aiq l1 j2)))))))));clear LO Qs LP Qt Qu vR lQ
        go_cut [15] from 81 to 94 (fun p wx=>p=Value.slice (some ad) 2 vc/\Gs (fun b=>b=BJ\/aU<=b) w2 wx/\Rws wx aU BJ (fun _=>False) (nn+1) (q1r jl aa bb))
        case first =>
         rename_i Jx Kx LR LS
         go_region_held_law (fun w'=>w'.cell? ⟨pJ,0,none⟩=some (.map (some BJ))/\w'.cell? ad=some (.int .i64 aa)/\w'.cell? ⟨ad.block,ad.off+1,none⟩=some (.int .i64 bb)) (first | exact⟨j2,l0,l1⟩ | exact⟨qk (w:=w2.drew) j2 _,qk (w:=w2.drew) l0 _,qk (w:=w2.drew) l1 _⟩ | exact⟨rj,r0,r1⟩ | exact⟨sj,s0,s1⟩) (first
          |(refine step_append_lies _ rfl _ _ 22 rfl aU 3 i0 _ 1 8 Tryz.underlying22 hi0 aF bR bV rfl (by decide) _ _ _ rfl ((World.ownsRow.drew yR).alloc _) ⟨w2.heap.size,0,none⟩ 1 1 [.int .i64 bb] rfl rfl (q7l w2.drew 3 [.int .i64 bb]) (q5v _) (by decide) (by unfold maxLen;omega) (by omega) (by simp;omega) _ rfl ?_;intro g2 cg w6 bH au eh iq;have rJ:Mp Tryz.prog 3 w6 BJ (nn) gA:=(Mp.alloc (w:=w2.drew) Fq.out.1 _).kept au (fun e=>by have:=th BJ e.symm;omega);have r0:w6.cell? ad=some (.int .i64 aa):=ql au (qk (w:=w2.drew) Fq.out.2.2.2.2.2.2.2.1 _) (fun kk h=>by have:=th kk h;omega);have r1:w6.cell? ⟨ad.block,ad.off+1,none⟩=some (.int .i64 bb):=ql au (qk (w:=w2.drew) Fq.out.2.2.2.2.2.2.2.2.1 _) (fun kk h=>by have:=th kk h;show ad.block≠kk;omega);have rj:w6.cell? ⟨pJ,0,none⟩=some (.map (some BJ)):=ql au (qk (w:=w2.drew) Fq.out.2.2.2.2.2.2.2.2.2 _) (fun kk h=>by have:=th kk h;show pJ≠kk;omega);have F6:=lhd (aiq bH (aiq au (aiq eh iq)));obtain⟨w7,fe,kF,dD⟩:=Mp.set rJ Tryz.underlying3 Tryz.underlying215 LQ Fo (.slice (some ⟨g2,0,none⟩) ((jl aa).length+1) cg);have s0:w7.cell? ad=some (.int .i64 aa):=ql dD r0 (fun kk h=>by cases h;show ad.block≠BJ;omega);have s1:w7.cell? ⟨ad.block,ad.off+1,none⟩=some (.int .i64 bb):=ql dD r1 (fun kk h=>by cases h;show ad.block≠BJ;omega);have sj:w7.cell? ⟨pJ,0,none⟩=some (.map (some BJ)):=ql dD rj (fun kk h=>by cases h;show pJ≠BJ;omega);have F7:=lhd (aiq kF dD);clear bH au eh iq kF dD))
         all_goals
          ((try go_step);refine LS _ _ (Met.intro ?_);refine LR _ _ ?_;(repeat apply Exists.intro);refine⟨?rel,rfl⟩)
          case rel =>
           obtain⟨bH,fP,eh,iq⟩:=F6.out;have au:(w2.drew.alloc (.cells #[.int .i64 bb] 3)).grownBy w6 I0.ownBlock:=fP;obtain⟨kF,dD⟩:=F7.out;obtain⟨b5,b6,b7,b8,b9,sJ,uw,_⟩:=Fq.out;have te:BwQ w2 (w2.drew.alloc (.cells #[.int .i64 bb] 3)):=(qb (Below.refl _ w2) 1).alloc (nlr _) _;have qC:(w2.drew.alloc (.cells #[.int .i64 bb] 3)).grownBy w6 (Qr aa).ownBlock:=by rw[<-uw];exact au
           exact⟨rfl,((Gs.xh te).grown au (fun kk h=>.inr (.inr (th kk h)))).grown dD (fun kk e=>by cases e;exact .inr (.inl rfl)),Rws.app b5 b6 b7 b8 b9 sJ (fun b h=>h.elim) aa bb te g2 cg _ qC bH (by rw[<-uw];rcases eh with h | h;exact .inl h;exact .inr h) kF dD⟩
        case rest =>
         obtain⟨rfl,CV,VO⟩:=hcut;go_upto_region 24 with fail;have cH:¬ (ad.block=BJ\/aU<=ad.block):=by omega
         have VP:¬ (pJ=BJ\/aU<=pJ):=by omega
         have Qv:wc.cell? ad=some (.int .i64 aa):=CV.cell cH l0;have Qw:wc.cell? ⟨ad.block,ad.off+1,none⟩=some (.int .i64 bb):=CV.cell (show ¬ (ad.block=BJ\/aU<=ad.block) from cH) l1;have Qx:wc.cell? ⟨pJ,0,none⟩=some (.map (some BJ)):=CV.cell (show ¬ (pJ=BJ\/aU<=pJ) from VP) j2;have yS:∀ i,(q1r jl aa bb i).length<=nn+1:=qb4 rh aa bb;have VQ:aU<=wc.heap.size:=gl LN CV.size;clear l0 l1 j2;have l0:=Qv;have l1:=Qw;have j2:=Qx;clear Qv Qw Qx rh;have rh:=yS;clear yS;obtain⟨gB,Qy,I1,LU,Qz,LV,Q1,Q2⟩:=VO;obtain⟨I2,vS⟩ : ∃ vr,vr=Qy bb:=⟨_,rfl⟩
         have vU:∀ X:World,Mp Tryz.prog 3 X BJ ((nn+1)) gB->(Instr.lookup 215 (.map (some BJ)) (.int .i64 bb) false).run Tryz.prog X = .ok I2 X:=fun X hX=>by have:=hX.look Tryz.underlying3 Tryz.underlying215 (q42 X) Fp;rw[this,LU bb,vS]
         have VR:=vU wc.drew I1;have VS:=vU (wc.drew.alloc (.cells #[.int .i64 aa] 3)) (Mp.alloc (w:=wc.drew) I1 _);have VT:=vU (wc.alloc (.cells #[.int .i64 aa] 3)).drew (Mp.alloc I1 _);have yT:wc.ownsRow aU 3 1 I2 ((q1r jl aa bb) bb).length (ints ((q1r jl aa bb) bb)):=by rw[vS];exact LV bb
         have ti:∀ b,I2.ownBlock=some b->aU<=b:=fun b h=>(yT.lt b h).1
         have Zm:(wc.alloc (.cells #[.int .i64 aa] 3)).cell? ad=some (.int .i64 aa):=qk l0 _;have Zn:(wc.alloc (.cells #[.int .i64 aa] 3)).cell? ⟨ad.block,ad.off+1,none⟩=some (.int .i64 bb):=qk l1 _;have Zo:(wc.alloc (.cells #[.int .i64 aa] 3)).cell? ⟨pJ,0,none⟩=some (.map (some BJ)):=qk j2 _;have VU:((q1r jl aa bb) bb).length<=8192:=by have:=rh bb;omega
         have LW:(nn+1) < maxLen:=by unfold maxLen;omega
         have Fs:=lhd (aiq I1 (aiq LU (aiq Qz (aiq LV (aiq Q1 (aiq Q2 (aiq vS (aiq l0 (aiq l1 j2)))))))));clear LU Qz LV Q1 Q2 vS vU
         go_region_held_law (fun w'=>w'.cell? ⟨pJ,0,none⟩=some (.map (some BJ))/\w'.cell? ad=some (.int .i64 aa)/\w'.cell? ⟨ad.block,ad.off+1,none⟩=some (.int .i64 bb)) (first | exact⟨j2,l0,l1⟩ | exact⟨qk (w:=wc.drew) j2 _,qk (w:=wc.drew) l0 _,qk (w:=wc.drew) l1 _⟩ | exact⟨rj,r0,r1⟩ | exact⟨sj,s0,s1⟩) (first
          |(refine step_append_lies _ rfl _ _ 22 rfl aU 3 i0 _ 1 8 Tryz.underlying22 hi0 aF bR bV rfl (by decide) _ _ _ rfl ((World.ownsRow.drew yT).alloc _) ⟨wc.heap.size,0,none⟩ 1 1 [.int .i64 aa] rfl rfl (q7l wc.drew 3 [.int .i64 aa]) (q5v _) (by decide) (by unfold maxLen;omega) (by omega) (by simp;omega) _ rfl ?_;intro g2 cg w6 bH au eh iq;have rJ:Mp Tryz.prog 3 w6 BJ ((nn+1)) gB:=(Mp.alloc (w:=wc.drew) Fs.out.1 _).kept au (fun e=>by have:=ti BJ e.symm;omega);have r0:w6.cell? ad=some (.int .i64 aa):=ql au (qk (w:=wc.drew) Fs.out.2.2.2.2.2.2.2.1 _) (fun kk h=>by have:=ti kk h;omega);have r1:w6.cell? ⟨ad.block,ad.off+1,none⟩=some (.int .i64 bb):=ql au (qk (w:=wc.drew) Fs.out.2.2.2.2.2.2.2.2.1 _) (fun kk h=>by have:=ti kk h;show ad.block≠kk;omega);have rj:w6.cell? ⟨pJ,0,none⟩=some (.map (some BJ)):=ql au (qk (w:=wc.drew) Fs.out.2.2.2.2.2.2.2.2.2 _) (fun kk h=>by have:=ti kk h;show pJ≠kk;omega);have F6:=lhd (aiq bH (aiq au (aiq eh iq)));obtain⟨w7,fe,kF,dD⟩:=Mp.set rJ Tryz.underlying3 Tryz.underlying215 LW Fp (.slice (some ⟨g2,0,none⟩) (((q1r jl aa bb) bb).length+1) cg);have s0:w7.cell? ad=some (.int .i64 aa):=ql dD r0 (fun kk h=>by cases h;show ad.block≠BJ;omega);have s1:w7.cell? ⟨ad.block,ad.off+1,none⟩=some (.int .i64 bb):=ql dD r1 (fun kk h=>by cases h;show ad.block≠BJ;omega);have sj:w7.cell? ⟨pJ,0,none⟩=some (.map (some BJ)):=ql dD rj (fun kk h=>by cases h;show pJ≠BJ;omega);have F7:=lhd (aiq kF dD);clear bH au eh iq kF dD))
         all_goals
          obtain⟨bH,fP,eh,iq⟩:=F6.out;have au:(wc.drew.alloc (.cells #[.int .i64 aa] 3)).grownBy w6 I2.ownBlock:=fP;obtain⟨kF,dD⟩:=F7.out;obtain⟨b5,b6,b7,b8,b9,sJ,uw,_⟩:=Fs.out;have te:BwQ wc (wc.drew.alloc (.cells #[.int .i64 aa] 3)):=(qb (Below.refl _ wc) 1).alloc (nlr _) _;have qC:(wc.drew.alloc (.cells #[.int .i64 aa] 3)).grownBy w6 (Qy bb).ownBlock:=by rw[<-uw];exact au
          have Q3:Gs (fun b=>b=BJ\/aU<=b) wc w7:=((Gs.xh te).grown au (fun kk h=>.inr (.inr (ti kk h)))).grown dD (fun kk e=>by cases e;exact .inr (.inl rfl));have VV:Rws w7 aU BJ (fun _=>False) (nn+1+1) (q1r (q1r jl aa bb) bb aa):=Rws.app b5 b6 b7 b8 b9 sJ (fun b h=>h.elim) bb aa te g2 cg _ qC bH (by rw[<-uw];rcases eh with h | h;exact .inl h;exact .inr h) kF dD;have Q4:Gs (fun b=>b=BJ\/b=r4\/aU<=b) CS w7:=(dF.trans (CV.mono (fun b _ h=>h.elim .inl (fun h=>.inr (.inr h))))).trans (Q3.mono (fun b _ h=>h.elim .inl (fun h=>.inr (.inr h))));have Fu:=q81 Q3 (q81 CV ct.out.1 (by omega) (by omega)) (by omega) (by omega);have Bo:=lhd (aiq Fu Q4);clear Fu Q4;go_wp2_with fail;go_roundw
          case measure=>rw[Bo.out.1.left_eq,LM.out.left_eq];exact ct.out.2.1
          case rel =>
           refine⟨_,_,nn+2,_,Bo.out.1,VV,by have:=ct.out.2.1;omega,(show Hid _ from qb4 rh bb aa),(show Hid _ from fun i k=>?_),(show Hid _ from fun c hc hl=>?_),Bo.out.2⟩
           ·rw[qb5,qb5,Ff.out i k];constructor
            ·rintro ((⟨c,hc,hl,h⟩ | ⟨rfl,rfl⟩) | ⟨rfl,rfl⟩)
             ·exact⟨c,hc,by rw[hl];rfl,h⟩
             ·exact⟨nx,by rw[ct.out.2.2.1];rfl,by rw[q82];simp,.inl dr⟩
             ·exact⟨nx,by rw[ct.out.2.2.1];rfl,by rw[q82];simp,.inr dr⟩
            ·rintro ⟨c,hc,hl,h⟩;by_cases tj:c=nx
             ·subst tj;rw[dr] at h;rcases h with h | h
              ·injection h with e1 h;injection h with e2 _;subst e1 e2;exact .inl (.inr ⟨rfl,rfl⟩)
              ·injection h with e1 h;injection h with e2 _;subst e1 e2;exact .inr ⟨rfl,rfl⟩
             ·exact .inl (.inl ⟨c,hc,qea hl tj,h⟩)
           ·by_cases tj:c=nx
            ·subst tj;rw[dr];rfl
            ·exact Fg.out c hc (qea hl tj)
       ·have Dn:((vn:Int) != 2)=true:=by simp;omega
        have iA:((vn:Int) == 2)=false:=by simp;omega
        have hE:xv (qx m) x.cl=25:=by
         have cm:plO o nx≠[]:=fun e=>by have:=(kW.out.1.2.1 nx).1 (by rw[ct.out.2.2.1];rfl);exact this e
         have h3:(occAt o nx).length=vn:=by rw[<-ct.out.2.2.2.2.1];unfold plO;rw[gn]
         have h2:occAt o nx≠[]:=fun e=>cm (by unfold plO;rw[e];rfl)
         obtain⟨p,hp⟩:=List.exists_mem_of_ne_nil _ h2;have lj:=gK.1 hp;have iw:p.1=nx:=by simpa using lj.2
         unfold xv;rw[<-HO.out,if_neg (fun ⟨q,_,hq⟩=>hq (lN.out q.1)),if_pos ⟨p,lj.1,by rw[iw,h3];exact hv2⟩]
        have HE:=lhd hE;have Bn:BwQ w w2:=re.out.trans (dF.below re.out.size (fun b hb=>by have:=re.out;rcases hb with h | h | h <;> omega));have VW:=lhd Bn;clear hE hv2 Bn;go_wp2_with fail;go_ret;exact⟨by rw[HE.out];rfl,VW.out⟩
    ·intro nx cv kl y1 y2 w2 vM aq db hv cL nm hlt dt iM nY;obtain⟨x',nh,rfl,CP⟩:=Maps.keyOf_int_inv Tryz.underlying3 aq;have ED:nx=x':=by injection nh
     subst ED;have hv2:y1 = .held cv:=by have:hld cv=some (.held cv,[]):=rfl;rw[this] at hv;injection hv with hv;injection hv with hv _;exact hv.symm
     subst hv2;have np:=Qg.out.qh3 cL;have Dq:cv = .int .i64 (q0c o nx):=by have:=Is.out nx;rw[np] at this;exact this
     subst Dq;obtain⟨S,hS⟩ : ∃ S,S=q0c o nx:=⟨_,rfl⟩
     rw[<-hS] at nY;have EE:(Instr.entry (.pointer (some ⟨r,0,none⟩))).run Tryz.prog w2 = .ok (.tuple #[.int .i64 nx,.int .i64 S]) w2:=nY;have VX:w2.cell? ⟨bx,2,none⟩=some (.slice x.a x.n x.c):=ql dt k2 (fun k e=>by cases e;show bx≠r;omega);have aw:BwQ w w2:=HB.out.grown dt HB.out.size (fun k e=>by cases e;omega);have Q5:Rws w2 base BM (fun b=>b=r) no (plO o):=by
      obtain⟨g,vm,a1,a2,a3,a4,a5,a6⟩:=mM;refine⟨g,vm,a1.kept dt (fun e=>by cases e;omega),a2,a3,fun c=>(a4 c).kept dt ?_,a5,a6⟩;cases h:(vm c).ownBlock with
      | none=>exact .inl rfl
      | some b=>exact .inr fun e=>(a6 c b h).2 (by injection e)
     have ct:=lhd (aiq nm (aiq hlt (aiq hS (aiq Q5 (aiq aw (aiq np db))))));have bV:base<=w2.heap.size:=by have:=dt.size;omega
     clear aq db hv cL nm hlt np nh CP nY kA mM hS k2 dt iM Q5 aw;by_cases dg:S=0
     ·subst dg;go_wp2_with fail;go_roundw
      case measure=>rw[ct.out.1.left_eq,CO.out.left_eq];exact ct.out.2.1
      case rel =>
       refine⟨_,_,ct.out.1,(show Hid _ from fun c hc hl=>?_),ct.out.2.2.2.1,ct.out.2.2.2.2.1,VX,bV⟩;by_cases tj:c=nx
       ·rw[tj];exact ct.out.2.2.1.symm
       ·have:(Lit.int .i64 c).sameKey (.int .i64 nx)=false:=by simp[Lit.sameKey,tj]
        rw[this] at hl;exact HF.out c hc (by simpa using hl)
     ·have Dn:(S != 0)=true:=by simpa using dg
      have iA:(S == 0)=false:=by simpa using dg
      have hE:xv (qx m) x.cl=24:=by
       have h1:q0c (occ (qx m) x.cl) nx≠0:=by rw[<-HO.out,<-ct.out.2.2.1];exact dg
       have h2:occAt (occ (qx m) x.cl) nx≠[]:=fun e=>h1 (by unfold q0c;rw[e];rfl)
       obtain⟨p,hp⟩:=List.exists_mem_of_ne_nil _ h2;have lj:=gK.1 hp;have iw:p.1=nx:=by simpa using lj.2
       unfold xv;rw[if_pos ⟨p,lj.1,by rw[iw];exact h1⟩]
      have HE:=lhd hE;clear hE dg;go_wp2_with fail;go_ret;exact⟨by rw[HE.out];rfl,ct.out.2.2.2.2.1⟩
end Go.Proofs.YtlhicnfeajejhaaGreatDoor
namespace Go.Cx
theorem q6l {α:Type} (key:α->Int) (L:List α) (c:Int):(xb key L).find? (fun x=>key x == c)=L.find? (fun x=>key x == c):=by
 cases hf:(xb key L).find? (fun x=>key x == c) with
 | some X =>
  have h1:=bi hf;have h2:=List.find?_some hf;have h2:key X=c:=by simpa using h2
  subst h2;exact(q4n (key:=key) L X h1).symm
 | none =>
  symm
  rw[List.find?_eq_none] at hf ⊢;intro Y hY hk;obtain⟨X,hX,e⟩:=(q75 (key:=key) c).2 ⟨Y,hY,by simpa using hk⟩;exact hf X hX (by simpa using e)
theorem q1l {T:Int->Option Cl} {x:Cl} (h:xx T x=0):x.s.length<=64/\(∀ s∈x.s,s.g=1\/s.g = -1)/\(1 < x.dim->0 < x.s.length):=by
 unfold xx at h;split at h
 ·cases h
 ·rename_i h1;split at h
  ·cases h
  ·rename_i h2;split at h
   ·cases h
   ·split at h
    ·cases h
    ·rename_i h4;refine⟨by omega,fun s hs=>?_,by omega⟩;apply be;intro hn;apply h4;rw[List.any_eq_true];exact⟨s,hs,by simp;omega⟩
theorem qfs {T:Int->Option Cl} {K:List Cl} {k:Nat} {x:Cl} (hk:K[k]? = some x) (last:Int) :
  q0a T last (K.drop k)=if x.id<=last then some (x.id,20) else if xx T x≠0 then some (x.id,xx T x) else q0a T x.id (K.drop (k+1)):=by
 obtain⟨h,rfl⟩:=ge.1 hk;rw[bf h];rfl
theorem qft {T:Int->Option Cl} {K:List Cl} {k:Nat} {x:Cl} (hk:K[k]? = some x) :
  qox T (K.drop k)=if 1 < x.dim/\xv T x≠0 then some (x.id,xv T x) else qox T (K.drop (k+1)):=by
 obtain⟨h,rfl⟩:=ge.1 hk;rw[bf h];rfl
end Go.Cx
namespace Go.Proofs.YtlhicnfeajejhaaGreatDoor
open Go.Cx Go.RowKit
theorem qlg {m:List Ce} {K:List Cl} (h:m.map Ce.cl=canon K):qx m=cAt K:=by
 funext c
 unfold qx cAt cellsOf;rw[q6l,<-h,List.find?_map];rfl
theorem q6m {mm l:List Ce} (dL:mm.map Ce.cl=canon (l.map Ce.cl)) (hok:COk l):∀ x∈mm,I64 x.id/\I64 x.dim/\∀ s∈x.s,I64 s.c/\I64 s.g:=fun x hx=>by
 have h1:x.cl∈canon (l.map Ce.cl):=by rw[<-dL];exact gG hx
 unfold canon at h1;obtain⟨y,hy,e⟩:=gr.1 h1;obtain⟨z,hz,rfl⟩:=gr.1 ((q2m _ _).1 hy);have e1:z.id=x.id:=congrArg Cl.id e;have e2:z.dim=x.dim:=congrArg Cl.dim e;have e3:stb Sd.c z.s=x.s:=congrArg Cl.s e;obtain⟨⟨a1,a2⟩,_,a3⟩:=hok z hz;exact⟨e1 ▸ a1,e2 ▸ a2,fun s hs=>a3 s ((q2m _ _).1 (e3 ▸ hs))⟩
theorem qlh (v:Value) (l:List Ce) (w:World) (h:SlC w v l) (hl:l.length<=1099511627776) (hok:COk l) :
  Calls Tryz.prog 150 #[.agg #[v]] w fun e w'=>e = .returned (.tuple #[.int .i64 (chk (l.map Ce.cl)).1,.int .i64 (chk (l.map Ce.cl)).2])/\BwQ w w':=by
 obtain⟨a,len,cap,rfl⟩:=qg h.1;have hlen:l.length=len:=by obtain⟨_,_,h3,_⟩:=h.1.open;rw[qt Ce.qp] at h3;omega
 have HA:=lhd (aiq h (aiq hl hok));have HL:=lhd hlen;clear h hl hok hlen;by_cases h4:4000 < len
 ·have hE:chk (l.map Ce.cl)=(0,2):=by unfold chk;rw[if_pos (by rw[gn,HL.out];exact h4)]
  have HE:=lhd hE;clear hE;go_enter Tryz.func150,Tryz.ntmps150;go_wp2_with fail;go_ret2;exact⟨by rw[HE.out];rfl,bal w _⟩
 ·have hE:chk (l.map Ce.cl)=match q0a (cAt (l.map Ce.cl)) 0 (canon (l.map Ce.cl)) with | some e=>e | none=>(qox (cAt (l.map Ce.cl)) (canon (l.map Ce.cl))).getD (0,0):=by unfold chk;rw[if_neg (by rw[gn,HL.out];exact h4)];rfl
  have HE:=lhd hE;clear hE;go_enter Tryz.func150,Tryz.ntmps150;go_wp2_with fail;obtain⟨W,hW⟩ : ∃ W:World,W=w.alloc (.cells #[.slice a len cap] 26):=⟨_,rfl⟩
  rw[<-hW];have bI:BwQ w W:=by rw[hW];exact bal w _
  have kb:W.cell? ⟨w.heap.size,0,none⟩=some (.slice a len cap):=by rw[hW];exact qd w #[.slice a len cap] 26 (0,0) 0
  clear hW;refine(qnb _ l W (HA.out.1.q8 bI) HA.out.2.1 HA.out.2.2).mono ?_;rintro e w1 ⟨T,rfl,hT,ak⟩;have LX:=Cx.q8 ak kb;have kO:BwQ w w1:=(btr bI ak);have HT:=lhd hT;have aV:=lhd kO;clear hT kO ak kb bI;go_wp2_with fail;refine(q8l _ l w1 (HA.out.1.q8 aV.out) HA.out.2.1 (fun x hx=>(HA.out.2.2 x hx).2.1)).mono ?_;rintro e w2 ⟨r,mm,rfl,dL,aA,kD,aw⟩;obtain⟨B,nT,Zp,m,_,_,t3,_,t5,_,t7,t8⟩:=HT.out;have dn:BwQ w w2:=(btr aV.out aw);have q0:w2.cell? ⟨T,0,none⟩=some (.map (some B)):=Cx.q8 aw t3;have Fv:=t5.q8 aw;have jH:∀ y∈m,Sl w2 2 y.sl (cat Sd.enc y.s):=fun y hy=>(t8 y hy).q8 aw
  have kH:=Sl.qc aA;obtain⟨a2,n2,c2,rfl⟩:=qg kH;have kC:∀ x∈mm,Sl w2 2 x.sl (cat Sd.enc x.s):=fun x hx=>Sl.qc (kD x hx)
  have iA:mm.length=n2:=by obtain⟨_,_,h3,_⟩:=kH.open;rw[qt Ce.qp] at h3;omega
  have VY:n2<=2 ^ 62:=by
   have h1:mm.length=l.length:=by rw[<-gn (f:=Ce.cl),dL,q0z,gn]
   have:=HA.out.2.1;omega
  have J8:=qlg t7;obtain⟨KK,I3⟩ : ∃ KK,KK=canon (l.map Ce.cl):=⟨_,rfl⟩
  have CG:Hid (chk (l.map Ce.cl)=match q0a (qx m) 0 KK with | some e=>e | none=>(qox (qx m) KK).getD (0,0)):=by show chk (l.map Ce.cl)=_;rw[HE.out,J8,I3]
  have HM:Hid (mm.map Ce.cl=KK):=by show mm.map Ce.cl=KK;rw[I3];exact dL
  have HI:=lhd (q6m dL HA.out.2.2);have LY:Hid (∀ c y,qx m c=some y->y∈KK/\∀ s∈y.s,I64 s.c):=fun c y hy=>by obtain⟨z,hz,_,e,_⟩:=(q97 m c).2 y hy;subst e;exact⟨by rw[I3,<-t7];exact gG hz,fun s hs=>((q6m t7 HA.out.2.2 z hz).2.2 s hs).1⟩
  have pG:=q3b a2 n2 c2;have Af:=lhd (aiq q0 (aiq Fv jH));have HC:=lhd (aiq kH kC);have HN:=lhd iA;have bG:=lhd dn;clear dL aA kD aw t3 t5 t7 t8 dn q0 Fv jH kH kC iA J8 I3 LX h4;go_wp2_with fail;clear pG;go_loopw [5,24] (fun la i wr=>∃ (k:Nat) (last:Int),i = .int .i64 k/\la = .int .i64 last/\k<=n2/\Hid (q0a (qx m) 0 KK=q0a (qx m) last (KK.drop k))/\BwQ w2 wr) (fun _ i _=>n2 - (vI i).toNat)
  case atStart=>exact⟨0,0,rfl,rfl,go _,(show Hid _ from rfl),Below.refl _ _⟩
  case round =>
   obtain⟨k,last,rfl,rfl,hk,HK,hB⟩:=hrel;by_cases hlt:k < n2
   ·obtain⟨x,hx⟩ : ∃ x,mm[k]? = some x:=⟨_,g8 (by rw[HN.out];exact hlt)⟩
    obtain⟨h2,h3,h4,h5,h6⟩:=HC.out.1.open;obtain⟨ad,rfl⟩:=sadq h5 (by omega)
    obtain⟨e0,e1,e2⟩:=zh mm k x hx;have d0:wr.cell? (ad.add (k*3))=some (.int .i64 x.id):=Cx.q8 hB (h6 ad rfl _ _ e0);have d1:wr.cell? ⟨(ad.add (k*3)).block,(ad.add (k*3)).off+1,none⟩=some (.int .i64 x.dim):=by rw[qi _ _ _ (by omega)];exact Cx.q8 hB (h6 ad rfl _ _ e1)
    have d2:wr.cell? ⟨(ad.add (k*3)).block,(ad.add (k*3)).off+2,none⟩=some (.slice x.a x.n x.c):=by rw[qi _ _ _ (by omega)];exact Cx.q8 hB (h6 ad rfl _ _ e2)
    have qF:=gh hx;have hKk:KK[k]? = some x.cl:=by rw[<-HM.out,List.getElem?_map,hx];rfl
    have aX:q0a (qx m) last (KK.drop k)=if x.id<=last then some (x.id,20) else if xx (qx m) x.cl≠0 then some (x.id,xx (qx m) x.cl) else q0a (qx m) x.id (KK.drop (k+1)):=qfs (T:=qx m) hKk last
    have aN:BwQ wr (wr.alloc (.cells #[.int .i64 x.id,.int .i64 x.dim,.slice x.a x.n x.c] 75)):=bal wr _;have HX:=lhd (aiq qF (aiq aX (aiq aN hB)));clear h2 h3 h4 h5 h6 e0 e1 e2 hx qF hKk aX aN hB;by_cases hle:x.id<=last
    ·have hr:chk (l.map Ce.cl)=(x.id,20):=by rw[CG.out,HK.out,HX.out.2.1,if_pos hle]
     have HR:=lhd hr;clear hr;go_wp2_with fail;go_ret2;refine⟨?_,bG.out.trans (((btr HX.out.2.2.2 HX.out.2.2.1)).mono bG.out.size)⟩;rw[HR.out];rfl
    ·have CT:=lhd (aiq hle trivial);have VZ:last < x.id:=by omega
     clear hle;go_wp2_with fail;obtain⟨V,hV⟩ : ∃ V:World,V=wr.alloc (.cells #[.int .i64 x.id,.int .i64 x.dim,.slice x.a x.n x.c] 75):=⟨_,rfl⟩
     have v0:V.cell? ⟨wr.heap.size,0,none⟩=some (.int .i64 x.id):=by rw[hV];exact qd wr #[.int .i64 x.id,.int .i64 x.dim,.slice x.a x.n x.c] 75 (0,0) 0
     have iN:BwQ w2 V:=HX.out.2.2.2.trans (by rw[hV];exact HX.out.2.2.1.mono HX.out.2.2.2.size);rw[<-hV];have HV:=lhd iN;have af:=qo3 T B nT m x V (Cx.q8 iN Af.out.1) (Af.out.2.1.q8 iN) ((HC.out.2 x HX.out.1).q8 iN) (HI.out x HX.out.1).2.1 (HI.out x HX.out.1).2.2;clear hV iN;refine af.mono ?_;rintro e w3 ⟨rfl,ar⟩;have Wa:=Cx.q8 ar v0;have fC:=lhd ((btr HV.out ar));clear af v0 ar;obtain⟨F,hF⟩ : ∃ F,F=xx (qx m) x.cl:=⟨_,rfl⟩
     rw[<-hF];have HF:=lhd hF;by_cases yU:F=0
     ·subst yU;have eu:q0a (qx m) 0 KK=q0a (qx m) x.id (KK.drop (k+1)):=by rw[HK.out,HX.out.2.1,if_neg (Int.not_le.2 CT.out.1),if_neg (fun h=>h HF.out.symm)]
      have Fw:=lhd eu;clear hF eu;go_wp2_with fail;go_roundw
      case measure=>simp[vI];omega
      case rel=>exact⟨k+1,x.id,qh (by omega),rfl,by omega,Fw,fC.out⟩
     ·have Fx:(F != 0)=true:=by simpa using yU
      have hr:chk (l.map Ce.cl)=(x.id,F):=by rw[CG.out,HK.out,HX.out.2.1,if_neg (Int.not_le.2 CT.out.1),if_pos (by rw[<-HF.out];exact yU),hF]
      have HR:=lhd hr;clear hr hF;go_wp2_with fail;go_ret2;exact⟨by rw[HR.out];rfl,(btr bG.out fC.out)⟩
   ·have vE:k=n2:=by omega
    have nw:q0a (qx m) 0 KK=none:=by rw[HK.out,List.drop_eq_nil_of_le (by rw[<-HM.out,gn,HN.out];omega)];rfl
    have yW:=lhd nw;have KI:=lhd hB;have ij:((k:Int) < (n2:Int))=False:=by simp;omega
    clear nw vE;go_wp2_with fail;have bR:=(q4f yW.out).1;have Bh:Hid (∀ y∈KK,y.s.length<=64/\(∀ r∈y.s,r.g=1\/r.g = -1)/\(1 < y.dim->0 < y.s.length)):=fun y hy=>q1l (bR y hy).2
    have EN:chk (l.map Ce.cl)=(qox (qx m) KK).getD (0,0):=by rw[CG.out,yW.out]
    have Bb:=lhd EN;clear bR EN ij hB;obtain⟨w4,vV⟩ : ∃ w4,w4=wr:=⟨_,rfl⟩
    subst vV;go_loopw [47] (fun i wr=>∃ k:Nat,i = .int .i64 k/\k<=n2/\Hid (qox (qx m) KK=qox (qx m) (KK.drop k))/\BwQ w2 wr) (fun i _=>n2 - (vI i).toNat)
    case atStart=>exact⟨0,rfl,go _,(show Hid _ from rfl),KI.out⟩
    case round =>
     obtain⟨k,rfl,hk,HK,hB⟩:=hrel;by_cases hlt:k < n2
     ·obtain⟨x,hx⟩ : ∃ x,mm[k]? = some x:=⟨_,g8 (by rw[HN.out];exact hlt)⟩
      obtain⟨h2,h3,h4,h5,h6⟩:=HC.out.1.open;obtain⟨ad,rfl⟩:=sadq h5 (by omega)
      obtain⟨e0,e1,e2⟩:=zh mm k x hx;have d0:wr.cell? (ad.add (k*3))=some (.int .i64 x.id):=Cx.q8 hB (h6 ad rfl _ _ e0);have d1:wr.cell? ⟨(ad.add (k*3)).block,(ad.add (k*3)).off+1,none⟩=some (.int .i64 x.dim):=by rw[qi _ _ _ (by omega)];exact Cx.q8 hB (h6 ad rfl _ _ e1)
      have d2:wr.cell? ⟨(ad.add (k*3)).block,(ad.add (k*3)).off+2,none⟩=some (.slice x.a x.n x.c):=by rw[qi _ _ _ (by omega)];exact Cx.q8 hB (h6 ad rfl _ _ e2)
      have qF:=gh hx;have hKk:KK[k]? = some x.cl:=by rw[<-HM.out,List.getElem?_map,hx];rfl
      have aX:qox (qx m) (KK.drop k)=if 1 < x.dim/\xv (qx m) x.cl≠0 then some (x.id,xv (qx m) x.cl) else qox (qx m) (KK.drop (k+1)):=qft (T:=qx m) hKk
      have aN:BwQ wr (wr.alloc (.cells #[.int .i64 x.id,.int .i64 x.dim,.slice x.a x.n x.c] 75)):=bal wr _;have HX:=lhd (aiq qF (aiq aX (aiq aN (aiq hB (gh hKk)))));clear h2 h3 h4 h5 h6 e0 e1 e2 hx qF hKk aX aN hB;by_cases hd:1 < x.dim
      ·have HD:=lhd hd;go_wp2_with fail;obtain⟨V,hV⟩ : ∃ V:World,V=wr.alloc (.cells #[.int .i64 x.id,.int .i64 x.dim,.slice x.a x.n x.c] 75):=⟨_,rfl⟩
       have v0:V.cell? ⟨wr.heap.size,0,none⟩=some (.int .i64 x.id):=by rw[hV];exact qd wr #[.int .i64 x.id,.int .i64 x.dim,.slice x.a x.n x.c] 75 (0,0) 0
       have iN:BwQ w2 V:=HX.out.2.2.2.1.trans (by rw[hV];exact HX.out.2.2.1.mono HX.out.2.2.2.1.size);rw[<-hV];have HV:=lhd iN;have bX:=Bh.out x.cl HX.out.2.2.2.2;have af:=qip T B nT m x V (Cx.q8 iN Af.out.1) (Af.out.2.1.q8 iN) ((HC.out.2 x HX.out.1).q8 iN) (fun y hy=>(Af.out.2.2 y hy).q8 iN)
        ⟨bX.1,fun r hr=>⟨((HI.out x HX.out.1).2.2 r hr).1,bX.2.1 r hr⟩⟩ (bX.2.2 hd) (fun c y hy=>⟨(Bh.out y (LY.out c y hy).1).1,fun r hr=>⟨(LY.out c y hy).2 r hr,(Bh.out y (LY.out c y hy).1).2.1 r hr⟩⟩)
       clear hV iN bX;refine af.mono ?_;rintro e w3 ⟨rfl,ar⟩;have Wa:=Cx.q8 ar v0;have fC:=lhd ((btr HV.out ar));clear af v0 ar;obtain⟨F,hF⟩ : ∃ F,F=xv (qx m) x.cl:=⟨_,rfl⟩
       rw[<-hF];have HF:=lhd hF;by_cases yU:F=0
       ·subst yU;have eu:qox (qx m) KK=qox (qx m) (KK.drop (k+1)):=by rw[HK.out,HX.out.2.1,if_neg (fun h=>h.2 HF.out.symm)]
        have Fw:=lhd eu;clear hF eu;go_wp2_with fail;go_roundw
        case measure=>simp[vI];omega
        case rel=>exact⟨k+1,qh (by omega),by omega,Fw,fC.out⟩
       ·have Fx:(F != 0)=true:=by simpa using yU
        have hr:chk (l.map Ce.cl)=(x.id,F):=by rw[Bb.out,HK.out,HX.out.2.1,if_pos ⟨HD.out,by rw[<-HF.out];exact yU⟩,<-hF];rfl
        have HR:=lhd hr;clear hr hF;go_wp2_with fail;go_ret2;exact⟨by rw[HR.out];rfl,(btr bG.out fC.out)⟩
      ·have eu:qox (qx m) KK=qox (qx m) (KK.drop (k+1)):=by rw[HK.out,HX.out.2.1,if_neg (fun h=>hd h.1)]
       have Fw:=lhd eu;clear eu;go_wp2_with fail;go_roundw
       case measure=>simp[vI];omega
       case rel=>exact⟨k+1,qh (by omega),by omega,Fw,(btr HX.out.2.2.2.1 HX.out.2.2.1)⟩
     ·have hr:chk (l.map Ce.cl)=(0,0):=by rw[Bb.out,HK.out,List.drop_eq_nil_of_le (by rw[<-HM.out,gn,HN.out];omega)];rfl
      have HR:=lhd hr;have Wb:=lhd hB;clear hr;go_wp2_with fail;go_ret2;exact⟨by rw[HR.out];rfl,(btr bG.out Wb.out)⟩
end Go.Proofs.YtlhicnfeajejhaaGreatDoor
