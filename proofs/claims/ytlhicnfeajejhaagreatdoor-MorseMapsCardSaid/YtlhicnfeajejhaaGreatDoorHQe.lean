/- Steps towards MorseMaps. Conditions: none. -/
import Derived.Deep.RegionHeldLaw
import Derived.Test.YtlhicnfeajejhaaGreatDoorHQd
set_option maxRecDepth 1000000
set_option maxHeartbeats 16000000
namespace Go.Cx
open Go.Proofs.YtlhicnfeajejhaaGreatDoor
section
variable (T:Int->Option Cl) (x:Cl)
def oF (k:Nat):List (Int×Nat×Int):=match x.s[k]? with
 | none=>[]
 | some s=>match T s.c with
  | none=>[]
  | some y=>y.s.map fun r=>(r.c,k,s.g*r.g)
def q1k (k:Nat):List (Int×Nat×Int):=(List.range k).flatMap (oF T x)
theorem q80 (k:Nat):q1k T x (k+1)=q1k T x k++oF T x k:=by
 unfold q1k;rw[bp,List.flatMap_append];simp
theorem qb2:q1k T x x.s.length=occ T x:=rfl
end
def q0c (o:List (Int×Nat×Int)) (c:Int):Int:=((occAt o c).map fun p=>p.2.2).sum
def plO (o:List (Int×Nat×Int)) (c:Int):List Int:=(occAt o c).map fun p=>(p.2.1:Int)
theorem q3g (o:List (Int×Nat×Int)) (p:Int×Nat×Int) (d:Int):occAt (o++[p]) d=if d=p.1 then occAt o d++[p] else occAt o d:=by
 unfold occAt;rw[bB];by_cases h:d=p.1
 ·simp[h]
 ·have:(p.1 == d)=false:=by simpa using fun e=>h e.symm
  simp[h,this]
theorem qfq (o:List (Int×Nat×Int)) (p:Int×Nat×Int):q0c (o++[p])=pu (q0c o) p.1 (q0c o p.1+p.2.2):=by
 funext d
 unfold q0c pu;rw[q3g];by_cases h:d=p.1
 ·subst h;simp
 ·simp[h]
theorem qim (o:List (Int×Nat×Int)) (p:Int×Nat×Int):plO (o++[p])=q1r (plO o) p.1 p.2.1:=by
 funext d
 unfold plO q1r;rw[q3g];by_cases h:d=p.1
 ·subst h;simp
 ·simp[h]
theorem qcm (o:List (Int×Nat×Int)) (h:∀ p∈o,-1<=p.2.2/\p.2.2<=1) (c:Int) : -(o.length:Int)<=q0c o c/\q0c o c<=o.length:=by
 induction o with
 | nil=>simp[q0c,occAt]
 | cons p o ih =>
  have h1:=ih fun q hq=>h q (bg _ hq)
  have h2:=h p gT;unfold q0c occAt at h1 ⊢;rw[List.filter_cons];split
  ·rw[gP,bw,gx];omega
  ·rw[gx];omega
theorem qle (o:List (Int×Nat×Int)) (c:Int):(plO o c).length<=o.length:=by
 unfold plO occAt;rw[gn];exact gR _ _
end Go.Cx
namespace Go.Proofs.YtlhicnfeajejhaaGreatDoor
open Go.RowKit Go.Cx Go.Maps
attribute [local go_sem ↓] Go.wp_at_zero Go.wp_at_succ
theorem qin (i d:Int) (a:Option Addr) (n c:Nat):∀ w:World,(Instr.field 75 (.agg #[.int .i64 i,.int .i64 d,.slice a n c]) 2).run Tryz.prog w = .ok (.slice a n c) w:=fun w=>by kernel_rfl
def q99 (s:List Sd):Prop:=s.length<=64/\∀ r∈s,I64 r.c/\(r.g=1\/r.g = -1)
theorem qio {T:Int->Option Cl} {x:Cl} (hT:∀ c y,T c=some y->q99 y.s) (k:Nat):(oF T x k).length<=64:=by
 unfold oF;cases x.s[k]? with
 | none=>simp
 | some s =>
  dsimp only
  cases h:T s.c with
  | none=>simp
  | some y=>simp only [List.length_map];exact(hT _ y h).1
theorem qb3 {T:Int->Option Cl} {x:Cl} (hT:∀ c y,T c=some y->q99 y.s) (k:Nat):(q1k T x k).length<=k*64:=by
 induction k with
 | zero=>simp[q1k]
 | succ k ih=>rw[q80,gc];have:=qio (x:=x) hT k;omega
theorem qmm {T:Int->Option Cl} {x:Cl} (hx:q99 x.s) (hT:∀ c y,T c=some y->q99 y.s) (k:Nat):∀ p∈oF T x k,-1<=p.2.2/\p.2.2<=1:=by
 unfold oF;cases hs:x.s[k]? with
 | none=>simp
 | some s =>
  dsimp only
  cases h:T s.c with
  | none=>simp
  | some y =>
   intro p hp;obtain⟨r,hr,rfl⟩:=go.1 hp;have h1:=(hx.2 s (gh hs)).2;have h2:=((hT _ y h).2 r hr).2;show -1<=s.g*r.g/\s.g*r.g<=1;rcases h1 with h1 | h1 <;> rcases h2 with h2 | h2 <;> rw[h1,h2] <;> decide
theorem qlf {T:Int->Option Cl} {x:Cl} (hx:q99 x.s) (hT:∀ c y,T c=some y->q99 y.s) (k:Nat):∀ p∈q1k T x k,-1<=p.2.2/\p.2.2<=1:=by
 intro p hp;obtain⟨i,_,hi⟩:=List.mem_flatMap.1 hp;exact qmm hx hT i p hi
theorem q81 {S:Nat->Prop} {w w':World} (h:Gs S w w') {P:Program} {k:TypeId} {H:Type} {R:Value->Option (DataW H×List MemPlace)} {b r n:Nat} {D:DataW H} {left:Lit->Bool} {mq:Nat} (hr:w.ranges P k R b r n D left mq) (hb:¬ S b) (Bq:¬ S r):w'.ranges P k R b r n D left mq:=by
 obtain⟨es,clock,since,seen,c0,cG,F,hs,hD,pY,rest⟩:=hr;have lb:b < w.heap.size:=(gv.1 cG).1;have lr:r < w.heap.size:=(gv.1 pY).1;exact⟨es,clock,since,seen,c0,by rw[h.blk b lb hb];exact cG,F,hs,hD,by rw[h.blk r lr Bq];exact pY,rest⟩
theorem qb4 {jl:Int->List Int} {n:Nat} (h:∀ i,(jl i).length<=n) (c x:Int):∀ i,(q1r jl c x i).length<=n+1:=fun i=>by
 unfold q1r;split
 ·rw[gc];have:=h c;simp;omega
 ·have:=h i;omega
theorem qb5 {jl:Int->List Int} {c x i k:Int} : k∈q1r jl c x i↔k∈jl i\/(i=c/\k=x):=by
 unfold q1r;split
 ·next e=>subst e;rw[gH,List.mem_singleton];simp
 ·next e=>simp[e]
theorem q82 (x:Int):(Lit.int .i64 x).sameKey (Lit.int .i64 x)=true:=by
 simp[Lit.sameKey]
theorem qea {left:Lit->Bool} {c nx:Int} (h:(left (.int .i64 c) && !(Lit.int .i64 c).sameKey (Lit.int .i64 nx))=false) (hn:c≠nx):left (.int .i64 c)=false:=by
 cases hl:left (.int .i64 c) with
 | false=>rfl
 | true =>
  rw[hl,Bool.true_and] at h;have:(Lit.int .i64 c).sameKey (Lit.int .i64 nx)=true:=by simpa using h
  have:=WideAt.sameKey_eq this;injection this with _ e
  exact absurd e hn
theorem q9a {T:Int->Option Cl} {x:Cl} {c i:Int} (h:i∈plO (occ T x) c):∃ k:Nat,i=k/\k < x.s.length:=by
 unfold plO at h;obtain⟨p,hp,rfl⟩:=go.1 h;have hp:=(gL.1 hp).1;unfold occ at hp;obtain⟨k,hk,hp⟩:=List.mem_flatMap.1 hp;have hk:=gC.1 hk;refine⟨k,?_,hk⟩;rw[g8 hk] at hp
 dsimp only at hp
 split at hp
 ·cases hp
 ·obtain⟨r,_,rfl⟩:=go.1 hp;rfl
theorem qeb {T:Int->Option Cl} {x:Cl} {o:List (Int×Nat×Int)} (ho:o=occ T x) (hx:x.s.length<=64) {c i:Int} (h:i∈plO o c):I64 i:=by
 rw[ho] at h;obtain⟨k,rfl,hk⟩:=q9a h;unfold I64;omega
theorem q43:∀ (L R:List Int),L.Nodup->(∀ c∈L,c∈R)->L.length<=R.length
 | [],_,_,_=>gp _
 | a :: l,R,hd,hs=>by
  obtain⟨h1,h2⟩:=List.nodup_cons.1 hd;have ha:=hs a (gT ..);have:=q43 l (R.erase a) h2 (fun c hc=>(List.mem_erase_of_ne (fun e=>by subst e;exact h1 hc)).2 (hs c (bg _ hc)));rw[List.length_erase_of_mem ha] at this;have:0 < R.length:=List.length_pos_of_mem ha;simp only [List.length_cons];omega
theorem qfr {L R:List Int} (hd:L.Nodup) (hs:∀ c∈L,c∈R) (he:R.length<=L.length):∀ c∈R,c∈L:=fun c hc=>by
 apply gD;intro hn;have:=q43 (c :: L) R (List.nodup_cons.2 ⟨hn,hd⟩) (fun d hd=>(gw.1 hd).elim (fun e=>e ▸ hc) (hs d));simp only [List.length_cons] at this;omega
theorem q44 {o:List (Int×Nat×Int)} {c i:Int} : i∈plO o c↔∃ (k:Nat) (g:Int),i=k/\(c,k,g)∈o:=by
 unfold plO occAt;constructor
 ·intro h;obtain⟨p,hp,rfl⟩:=go.1 h;obtain⟨h1,h2⟩:=gL.1 hp;have h2:p.1=c:=by simpa using h2
  subst h2;exact⟨p.2.1,p.2.2,rfl,h1⟩
 ·rintro ⟨k,g,rfl,h⟩;exact go.2 ⟨(c,k,g),gL.2 ⟨h,by simp⟩,rfl⟩
theorem qcn {T:Int->Option Cl} {x:Cl} {o:List (Int×Nat×Int)} (ho:o=occ T x) (eu:∀ c,q0c o c=0) (h2:∀ c,plO o c≠[]->(plO o c).length=2) (hn:0 < x.s.length) {S:Int->Prop} {L:List Int} (hL:L.Nodup) (hm:∀ c,c∈L↔S c) (h0:S 0)
  {J:Int->Int->Prop} (hJ:∀ i k,J i k↔∃ c,plO o c=[i,k]\/plO o c=[k,i]) (hr:∀ d,Relation.TransGen J 0 d->S d) (hs:∀ d,S d->d=0\/Relation.TransGen J 0 d) :
  xv T x=if L.length=x.s.length then 0 else 25:=by
 have rP:∀ i k,J i k->∃ k':Nat,k=k'/\k' < x.s.length:=fun i k h=>by
  obtain⟨c,hc⟩:=(hJ i k).1 h;refine q9a (T:=T) (x:=x) (c:=c) ?_;rw[<-ho];rcases hc with hc | hc <;> rw[hc] <;> simp
 have Ee:∀ i k:Nat,J i k->adj o i k:=fun i k h=>by
  obtain⟨c,hc⟩:=(hJ i k).1 h;have h1:(i:Int)∈plO o c:=by rcases hc with hc | hc <;> rw[hc] <;> simp
  have h2:(k:Int)∈plO o c:=by rcases hc with hc | hc <;> rw[hc] <;> simp
  obtain⟨a,g,e1,m1⟩:=q44.1 h1;obtain⟨b,g',e2,m2⟩:=q44.1 h2;have e1:i=a:=by omega
  have e2:k=b:=by omega
  subst e1 e2;exact⟨c,g,g',m1,m2⟩
 have wQ:∀ i k:Nat,adj o i k->i=k\/J i k:=fun i k ⟨c,g,g',m1,m2⟩=>by
  have h1:(i:Int)∈plO o c:=q44.2 ⟨i,g,rfl,m1⟩;have h3:(k:Int)∈plO o c:=q44.2 ⟨k,g',rfl,m2⟩;have hl:=h2 c (fun e=>by rw[e] at h1;cases h1)
  match hp:plO o c,hl with
  | [a,b],_ =>
   rw[hp] at h1 h3;simp only [List.mem_cons,List.not_mem_nil,or_false] at h1 h3;by_cases he:i=k
   ·exact .inl he
   ·refine .inr ((hJ i k).2 ⟨c,?_⟩);rw[hp];rcases h1 with h1 | h1 <;> rcases h3 with h3 | h3
    ·omega
    ·rw[h1,h3];exact .inl rfl
    ·rw[h1,h3];exact .inr rfl
    ·omega
 have P8:∀ d,Relation.TransGen J 0 d->∃ k:Nat,d=k/\k < x.s.length/\Relation.TransGen (adj o) 0 k:=fun d hd=>by
  induction hd with
  | single h =>
   obtain⟨k,rfl,hk⟩:=rP _ _ h;exact⟨k,rfl,hk,.single (Ee 0 k h)⟩
  | tail _ h ih =>
   obtain⟨b,rfl,_,hb⟩:=ih;obtain⟨k,rfl,hk⟩:=rP _ _ h;exact⟨k,rfl,hk,.tail hb (Ee b k h)⟩
 have Ef:∀ k:Nat,Relation.TransGen (adj o) 0 k->k=0\/Relation.TransGen J 0 (k:Int):=fun k hk=>by
  induction hk with
  | single h =>
   rcases wQ _ _ h with rfl | h
   ·exact .inl rfl
   ·exact .inr (.single h)
  | tail _ h ih =>
   rcases wQ _ _ h with rfl | h
   ·exact ih
   ·rcases ih with rfl | ih
    ·exact .inr (.single h)
    ·exact .inr (.tail ih h)
 have i6:∀ c∈L,c∈(List.range x.s.length).map fun k:Nat=>(k:Int):=fun c hc=>by
  rcases hs c ((hm c).1 hc) with rfl | h
  ·exact go.2 ⟨0,gC.2 hn,rfl⟩
  ·obtain⟨k,rfl,hk,_⟩:=P8 _ h;exact go.2 ⟨k,gC.2 hk,rfl⟩
 have YW:((List.range x.s.length).map fun k:Nat=>(k:Int)).length=x.s.length:=by simp
 have Vk:((List.range x.s.length).map fun k:Nat=>(k:Int)).Nodup:=by
  unfold List.Nodup;rw[List.pairwise_map];exact List.Pairwise.imp (fun h e=>h (by omega)) (List.nodup_range (n:=x.s.length))
 have hS:∀ k:Nat,S k↔(k=0\/Relation.TransGen J 0 (k:Int)):=fun k=>⟨fun h=>(hs _ h).imp (fun e=>by omega) id,fun h=>h.elim (fun e=>by rw[e];exact h0) (hr _)⟩
 classical
 have hE:xv T x=if ∀ i < x.s.length,i=0\/Relation.TransGen (adj o) 0 i then 0 else 25:=by
  unfold xv;rw[<-ho,if_neg (fun ⟨q,_,hq⟩=>hq (eu q.1)),if_neg];rintro ⟨q,hq,aq⟩;apply aq;have:plO o q.1≠[]:=fun e=>by
   have:(q.2.1:Int)∈plO o q.1:=q44.2 ⟨q.2.1,q.2.2,rfl,hq⟩;rw[e] at this;cases this
  have:=h2 _ this;unfold plO at this;rwa [gn] at this
 rw[hE];by_cases hl:L.length=x.s.length
 ·rw[if_pos hl,if_pos];intro i hi;have:=(hS i).1 ((hm _).1 (qfr hL i6 (by omega) i (go.2 ⟨i,gC.2 hi,rfl⟩)));rcases this with h | h
  ·exact .inl h
  ·obtain⟨k,e,_,hk⟩:=P8 _ h;have:i=k:=by omega
   subst this;exact .inr hk
 ·rw[if_neg hl,if_neg];intro aI;apply hl;have h1:=q43 _ _ hL i6;have h2:=q43 _ L Vk (fun c hc=>by
   obtain⟨k,hk,rfl⟩:=go.1 hc;have hk:=gC.1 hk;rw[hm,hS];rcases aI k hk with h | h
   ·exact .inl h
   ·exact Ef k h)
  omega
theorem qip (T B n:Nat) (m:List Ce) (x:Ce) (w:World) (q0:w.cell? ⟨T,0,none⟩=some (.map (some B))) (ep:Mp Tryz.prog 3 w B n (gOf m)) (hs:Sl w 2 x.sl (cat Sd.enc x.s)) (ht:∀ y∈m,Sl w 2 y.sl (cat Sd.enc y.s)) (hx:q99 x.s) (dK:0 < x.s.length) (hT:∀ c y,qx m c=some y->q99 y.s) :
  Calls Tryz.prog 179 #[.pointer (some ⟨T,0,none⟩),x.v] w fun e w'=>e = .returned (.int .i64 (xv (qx m) x.cl))/\Below w.heap.size w w':=by
 unfold Ce.sl at hs;obtain⟨h1,h2,h3,h4,h5⟩:=hs.open;rw[qt Sd.qp] at h3;have hl:x.s.length=x.n:=by omega
 unfold maxLen at h2;unfold Ce.v;have fZ:x.n<=64:=by have:=hx.1;omega
 have HS:=lhd (aiq hs ht);have HM:=lhd ep;have HX:=lhd (aiq hx (aiq dK (aiq hT hl)));have dV:=@run_makeMap Tryz.prog;have mixed:Tryz.prog.follows .mixedOrders=true:=by kernel_rfl
 clear h3 h4 h5 hs ht ep hx dK hT hl;go_enter Tryz.func179,Tryz.ntmps179;go_wp2_with fail;obtain⟨W,hW⟩ : ∃ W,W=((w.alloc (.cells #[.int .i64 x.id,.int .i64 x.dim,.slice x.a x.n x.c] 75)).alloc (.map #[] 0)).alloc (.map #[] 0):=⟨_,rfl⟩
 rw[<-hW];have bP:Below w.heap.size w W:=by rw[hW];exact(((Below.refl _ w).alloc (nlr _) _).alloc (by simp) _).alloc (by simp;omega) _
 have k2:W.cell? ⟨w.heap.size,2,none⟩=some (.slice x.a x.n x.c):=by rw[hW];exact qk (qk (qd w _ _ (0,0) 2) _) _
 have mS:MpI W (w.heap.size+1) 0 (q0c []):=by
  rw[hW,show q0c []=fun _=>0 from rfl];have:=MpI.made (w.alloc (.cells #[.int .i64 x.id,.int .i64 x.dim,.slice x.a x.n x.c] 75));rw[World.size_alloc] at this;exact this.q8 ((Below.refl _ _).alloc (nlr _) _)
 have mM:Rws W (w.heap.size+3) (w.heap.size+1+1) (fun _=>False) 0 (plO []):=by
  rw[hW,show plO []=fun _=>[] from rfl];have:=Rws.made ((w.alloc (.cells #[.int .i64 x.id,.int .i64 x.dim,.slice x.a x.n x.c] 75)).alloc (.map #[] 0)) (w.heap.size+3) (fun _=>False);simp only [World.size_alloc] at this;exact this
 have vF:W.heap.size=w.heap.size+3:=by rw[hW];simp
 obtain⟨bx,iQ⟩ : ∃ b,b=w.heap.size:=⟨_,rfl⟩
 obtain⟨BU,dU⟩ : ∃ b,b=w.heap.size+1:=⟨_,rfl⟩
 obtain⟨BM,Lr⟩ : ∃ b,b=w.heap.size+1+1:=⟨_,rfl⟩
 obtain⟨base,ae⟩ : ∃ b,b=w.heap.size+3:=⟨_,rfl⟩
 rw[<-Lr] at mM ⊢;rw[<-dU] at mS ⊢;rw[<-ae] at mM vF;have pe:bx < BU/\BU < BM/\BM < base:=by omega
 have bY:w.heap.size<=bx/\bx<=w.heap.size:=by omega
 rw[<-iQ] at k2 ⊢;have HW:=lhd (aiq bP (aiq iQ (aiq dU (aiq Lr ae))));have Eg:base<=W.heap.size:=by omega
 clear hW bP iQ dU Lr ae vF;go_wp2_with fail;go_loopw [23] (fun i wr=>∃ k:Nat,i = .int .i64 k/\k<=x.n/\MpI wr BU (q1k (qx m) x.cl k).length (q0c (q1k (qx m) x.cl k))/\Rws wr base BM (fun _=>False) (q1k (qx m) x.cl k).length (plO (q1k (qx m) x.cl k))/\Hid (Below w.heap.size w wr)/\wr.cell? ⟨bx,2,none⟩=some (.slice x.a x.n x.c)/\base<=wr.heap.size) (fun i _=>x.n - (vI i).toNat)
 case atStart=>exact⟨0,rfl,gp _,mS,mM,HW.out.1,k2,Eg⟩
 case round =>
  clear mS mM k2 Eg;obtain⟨k,rfl,hk,mS,mM,HB,k2,iS⟩:=hrel;by_cases hlt:k < x.n
  ·obtain⟨s,hs⟩ : ∃ s,x.s[k]? = some s:=⟨_,g8 (by rw[HX.out.2.2.2];exact hlt)⟩
   obtain⟨_,_,_,h5,h6⟩:=(HS.out.1.q8 HB.out).open;obtain⟨ad,ck⟩ : ∃ ad,x.a=some ad:=by
    cases ha:x.a with
    | none=>have:=h5 ha;omega
    | some ad=>exact⟨ad,rfl⟩
   obtain⟨e0,e1⟩:=zw x.s k s hs;have g0:wr.cell? (ad.add (k*2))=some (.int .i64 s.c):=h6 ad ck _ _ e0;have g1:wr.cell? ⟨(ad.add (k*2)).block,(ad.add (k*2)).off+1,none⟩=some (.int .i64 s.g):=by rw[qi _ _ _ (by omega)];exact h6 ad ck _ _ e1
   have cr:=HX.out.1.2 s (gh hs);have au:=yx cr.1;have yN:wr.cell? ⟨T,0,none⟩=some (.map (some B)):=Cx.q8 HB.out q0;obtain⟨zi,zd,za,zn,zc,hz⟩ : ∃ (zi zd:Int) (za:Option Addr) (zn zc:Nat),(gOf m s.c).getD (.agg #[.int .i64 0,.int .i64 0,.slice none 0 0]) = .agg #[.int .i64 zi,.int .i64 zd,.slice za zn zc]:=by
    unfold gOf;cases m.find? (fun y=>y.id == s.c) with
    | none=>exact⟨_,_,_,_,_,rfl⟩
    | some y=>exact⟨_,_,_,_,_,rfl⟩
   obtain⟨V,hV⟩ : ∃ V,V=wr.alloc (.cells #[.int .i64 s.c,.int .i64 s.g] 108):=⟨_,rfl⟩
   have aK:Below wr.heap.size wr V:=by rw[hV];exact(Below.refl _ wr).alloc (nlr _) _
   have cP:(Instr.lookup 181 (.map (some B)) (.int .i64 s.c) false).run Tryz.prog V.drew = .ok (.agg #[.int .i64 zi,.int .i64 zd,.slice za zn zc]) V.drew:=by
    have:=((HM.out.q8 HB.out).q8 (aK.trans (qb (Below.refl _ V) 1 |>.mono aK.size))).look Tryz.underlying3 Tryz.underlying181 (zeroCell V.drew) au
    rwa [hz] at this
   have v0:V.cell? ⟨wr.heap.size,0,none⟩=some (.int .i64 s.c):=by rw[hV];exact qd wr _ _ (0,0) 0
   have v1:V.cell? ⟨wr.heap.size,1,none⟩=some (.int .i64 s.g):=by rw[hV];exact qd wr _ _ (0,0) 1
   have vT:V.cell? ⟨T,0,none⟩=some (.map (some B)):=Cx.q8 aK yN;have oo:=qin zi zd za zn zc;have HZ:=lhd (aiq hs (aiq hz (aiq aK cr)));have YX:=lhd ck;rw[ck] at k2 ⊢;clear h5 h6 e0 e1 hs hz aK cr yN;go_upto_region 5 with fail;rw[<-hV];clear hV
   go_still (by kernel_rfl)
   obtain⟨ys,dg,P9,Ls⟩ : ∃ ys:List Sd,(∀ U,Below w.heap.size w U->Sl U 2 (.slice za zn zc) (cat Sd.enc ys))/\oF (qx m) x.cl k=ys.map (fun r=>(r.c,k,s.g*r.g))/\q99 ys:=by
    obtain⟨t1,t2⟩:=q97 m s.c;have fA:x.cl.s[k]? = some s:=HZ.out.1;cases hT:qx m s.c with
    | none =>
     rw[hT] at t1;have hg:gOf m s.c=none:=by
      cases hg:gOf m s.c with
      | none=>rfl
      | some v=>rw[hg] at t1;cases t1
     have h1:=HZ.out.2.1;rw[hg] at h1;have h2:(Value.agg #[.int .i64 0,.int .i64 0,.slice none 0 0]) = .agg #[.int .i64 zi,.int .i64 zd,.slice za zn zc]:=h1;obtain⟨rfl,rfl,rfl⟩ : none=za/\0=zn/\0=zc:=⟨by simp at h2;exact h2.2.2.1,by simp at h2;exact h2.2.2.2.1,by simp at h2;exact h2.2.2.2.2⟩
     refine⟨[],fun U _=>Sl.nil _ _,?_,by decide,fun r hr=>by cases hr⟩;unfold oF;rw[fA];dsimp only;rw[hT];rfl
    | some y =>
     obtain⟨z,cj,cp,jN,oM⟩:=t2 y hT;have h1:=HZ.out.2.1;rw[oM] at h1;have h2:(Value.agg #[.int .i64 z.id,.int .i64 z.dim,.slice z.a z.n z.c]) = .agg #[.int .i64 zi,.int .i64 zd,.slice za zn zc]:=h1;have h3:Value.slice z.a z.n z.c = .slice za zn zc:=by simp at h2 ⊢;exact h2.2.2
     refine⟨y.s,fun U hU=>?_,?_,HX.out.2.2.1 _ y hT⟩
     ·rw[<-h3,<-jN];exact(HS.out.2 z cj).q8 hU
     ·unfold oF;rw[fA];dsimp only;rw[hT]
   have HY:=lhd (aiq dg (aiq P9 Ls));have Eh:ys.length=zn:=by
    obtain⟨_,_,h3,_⟩:=(dg _ HB.out).open;rw[qt Sd.qp] at h3;omega
   have YY:zn<=64:=by have:=Ls.1;omega
   have PA:=lhd Eh;obtain⟨U,hU⟩ : ∃ U,U=V.drew:=⟨_,rfl⟩
   have dU:Below wr.heap.size wr U:=by rw[hU];exact HZ.out.2.2.1.trans ((qb (Below.refl _ V) 1).mono HZ.out.2.2.1.size)
   have PB:=Cx.q8 dU k2;have Ei:U.cell? ⟨wr.heap.size,1,none⟩=some (.int .i64 s.g):=by rw[hU];exact v1
   have PC:=mS.q8 dU;have Lt:=(mM.qb1 (Av':=fun b=>b=wr.heap.size) (fun b h=>.inl (by omega))).q8 dU;have PD:base<=U.heap.size:=gl iS dU.size;have GM:=lhd (HB.out.trans (dU.mono HB.out.size));have Ej:=HZ.out.2.2.2.2;change Exit.then _ _ _ _ V.drew;rw[<-hU];obtain⟨bs,jD⟩ : ∃ bs,bs=wr.heap.size:=⟨_,rfl⟩
   rw[<-jD] at Ei Lt ⊢;have Vl:base<=bs:=by omega
   have Vm:bs < U.heap.size:=World.block_lt_of_cell? U ⟨bs,1,none⟩ Ei;have YZ:=lhd jD;clear hU jD dg P9 Ls Eh dU v0 v1 vT mS mM k2 cP oo;obtain⟨sg,Aq⟩ : ∃ sg,sg=s.g:=⟨_,rfl⟩
   rw[<-Aq] at Ei Ej;have Ek:=lhd Aq;clear Aq;obtain⟨wo,dB⟩ : ∃ wo,wo=wr:=⟨_,rfl⟩
   subst dB;go_wp2_with fail;go_loopw [37] (fun i wr=>∃ jj:Nat,i = .int .i64 jj/\jj<=zn/\MpI wr BU (q1k (qx m) x.cl k++(oF (qx m) x.cl k).take jj).length (q0c (q1k (qx m) x.cl k++(oF (qx m) x.cl k).take jj))/\Rws wr base BM (fun b=>b=bs) (q1k (qx m) x.cl k++(oF (qx m) x.cl k).take jj).length (plO (q1k (qx m) x.cl k++(oF (qx m) x.cl k).take jj))/\Hid (Below w.heap.size w wr)/\wr.cell? ⟨bx,2,none⟩=some (.slice (some ad) x.n x.c)/\wr.cell? ⟨bs,1,none⟩=some (.int .i64 sg)/\base<=wr.heap.size) (fun i _=>zn - (vI i).toNat)
   case atStart=>exact⟨0,rfl,gp _,by simpa using PC,by simpa using Lt,GM.out,PB,Ei,PD⟩
   case round =>
    clear PB Ei PC Lt PD;obtain⟨jj,rfl,wL,mS,mM,bR,k2,s1,Lu⟩:=hrel;obtain⟨O,hO⟩ : ∃ O,O=q1k (qx m) x.cl k++(oF (qx m) x.cl k).take jj:=⟨_,rfl⟩
    rw[<-hO] at mS mM;have HO:=lhd hO;clear hO;by_cases dP:jj < zn
    ·obtain⟨r,hr⟩ : ∃ r,ys[jj]? = some r:=⟨_,g8 (by rw[PA.out];exact dP)⟩
     obtain⟨_,_,_,h5,h6⟩:=(HY.out.1 wr bR.out).open;obtain⟨ay,rfl⟩ : ∃ ay,za=some ay:=by
      cases za with
      | none=>have:=h5 rfl;omega
      | some ay=>exact⟨ay,rfl⟩
     obtain⟨e0,e1⟩:=zw ys jj r hr;have r0:wr.cell? (ay.add (jj*2))=some (.int .i64 r.c):=h6 ay rfl _ _ e0;have r1:wr.cell? ⟨(ay.add (jj*2)).block,(ay.add (jj*2)).off+1,none⟩=some (.int .i64 r.g):=by rw[qi _ _ _ (by omega)];exact h6 ay rfl _ _ e1
     obtain⟨PE,iR⟩:=HY.out.2.2.2 r (gh hr);have Bk:=yx PE;obtain⟨rg,Ar⟩ : ∃ rg,rg=r.g:=⟨_,rfl⟩
     rw[<-Ar] at r1 iR;obtain⟨pr,lq⟩ : ∃ pr,pr=sg*rg:=⟨_,rfl⟩
     have kK : -1<=pr/\pr<=1:=by rw[lq];rcases Ej with h | h <;> rcases iR with h' | h' <;> rw[h,h'] <;> decide
     have wR:wrap64 (sg*rg)=pr:=by rw[<-lq];exact IntWalk.wrap64_in _ (by omega)
     have PF:IntKind.i64.wrap (sg*rg)=pr:=(IntWalk.i64_left _).trans wR;have tp:O.length<=4096+64:=by
      rw[HO.out,gc,gd];have h1:=qb3 (x:=x.cl) HX.out.2.2.1 k;have h2:=qio (x:=x.cl) HX.out.2.2.1 k;omega
     have PG:∀ p∈O,-1<=p.2.2/\p.2.2<=1:=fun p hp=>by
      rw[HO.out] at hp;rcases gH.1 hp with hp | hp
      ·exact qlf HX.out.1 HX.out.2.2.1 k p hp
      ·exact qmm HX.out.1 HX.out.2.2.1 k p (gK hp)
     obtain⟨S,hS⟩ : ∃ S,S=q0c O r.c:=⟨_,rfl⟩
     have wT : -(4160:Int)<=S/\S<=4160:=by rw[hS];have:=qcm O PG r.c;omega
     have wU:wrap64 (S+pr)=S+pr:=IntWalk.wrap64_in _ (by omega);have PH:IntKind.i64.wrap (S+pr)=S+pr:=(IntWalk.i64_left _).trans wU;have PI:q1k (qx m) x.cl k++(oF (qx m) x.cl k).take (jj+1)=O++[(r.c,k,pr)]:=by
      rw[HO.out,gq,<-gE,HY.out.2.1,List.getElem?_map,hr];show _++[(r.c,k,s.g*r.g)]=_;rw[lq,Ek.out,Ar]
     obtain⟨R,hR⟩ : ∃ R,R=wr.alloc (.cells #[.int .i64 r.c,.int .i64 rg] 108):=⟨_,rfl⟩
     have wV:Below wr.heap.size wr R:=by rw[hR];exact(Below.refl _ wr).alloc (nlr _) _
     have Vn:R.heap.size=wr.heap.size+1:=by rw[hR];simp
     have PJ:R.cell? ⟨wr.heap.size,0,none⟩=some (.int .i64 r.c):=by rw[hR];exact qd wr _ _ (0,0) 0
     have Lv:(Instr.lookup 122 (.map (some BU)) (.int .i64 r.c) false).run Tryz.prog R = .ok (.int .i64 S) R:=by
      have:=(mS.q8 wV).look PE
      rwa [<-hS] at this
     rw[hR] at Lv;obtain⟨gS,Af,uv⟩:=mS.q8 wV;have PK:O.length < maxLen:=by unfold maxLen;omega
     have PL:R.cell? ⟨bs,1,none⟩=some (.int .i64 sg):=Cx.q8 wV s1;have PM:=Cx.q8 wV k2;obtain⟨g,vm,GI,a2,a3,Dq,a5,a6⟩:=mM;have Au:∀ c b,(vm c).ownBlock=some b->base<=b/\b < wr.heap.size:=fun c b h=>(Dq c).lt b h
     have PN:=GI.q8 wV;have PO:=fun c=>qa (Dq c) wV
     have HJ:=lhd (aiq hS (aiq uv (aiq PI (aiq wV (aiq tp Vn)))));have Vo:bs < wr.heap.size:=World.block_lt_of_cell? wr ⟨bs,1,none⟩ s1;clear h5 h6 e0 e1 hr Ar iR lq kK wR wU PG hS wT PI wV uv mS GI Dq tp;go_wp2_with (first
      |(at_mapUpdate;rw[<-hR];clear hR;refine q1z rfl _ _ _ 122 rfl Af Tryz.underlying3 Tryz.underlying122 PK r.c _ rfl rfl rfl Bk ?_)
      | fail)
     intro w3 lf fQ;have Lw:=fQ.size;have El:MpI w3 BU (O.length+1) (pu (q0c O) r.c (S+pr)):=MpI.q6j HJ.out.2.1 lf;have Lz:w3.cell? ⟨wr.heap.size,0,none⟩=some (.int .i64 r.c):=ql fQ PJ (fun k e=>by cases e;show wr.heap.size≠BU;omega);have PQ:w3.cell? ⟨bs,1,none⟩=some (.int .i64 sg):=ql fQ PL (fun k e=>by cases e;show bs≠BU;omega);have PR:w3.cell? ⟨bx,2,none⟩=some (.slice (some ad) x.n x.c):=ql fQ PM (fun k e=>by cases e;show bx≠BU;omega);have aA:Below w.heap.size w w3:=(bR.out.trans (HJ.out.2.2.2.1.mono bR.out.size)).grown fQ (by have:=bR.out.size;rw[HJ.out.2.2.2.2.2];omega) (fun k e=>by cases e;omega);rw[HJ.out.2.2.2.2.2] at Lw;have a1:Mp Tryz.prog 3 w3 BM O.length g:=PN.kept fQ (fun e=>by cases e;omega);have a4:∀ c,w3.ownsRow base 3 1 (vm c) (plO O c).length (ints (plO O c)):=fun c=>(PO c).kept fQ (by
      cases ho:(vm c).ownBlock with
      | none=>exact .inl rfl
      | some b=>exact .inr fun e=>by have:=(Au c b ho).1;injection e with e;omega)
     obtain⟨vr,Aw⟩ : ∃ vr,vr=vm r.c:=⟨_,rfl⟩
     have kL:∀ X:World,Mp Tryz.prog 3 X BM O.length g->(Instr.lookup 215 (.map (some BM)) (.int .i64 r.c) false).run Tryz.prog X = .ok vr X:=fun X hX=>by
      have:=hX.look Tryz.underlying3 Tryz.underlying215 (q42 X) Bk;rw[this,a2 r.c,Aw]
     have BG:=kL w3.drew a1;have ru:=kL (w3.drew.alloc (.cells #[.int .i64 k] 3)) (Mp.alloc (w:=w3.drew) a1 _);have zC:=kL (w3.alloc (.cells #[.int .i64 k] 3)).drew (Mp.alloc a1 _);have aC:w3.ownsRow base 3 1 vr (plO O r.c).length (ints (plO O r.c)):=by rw[Aw];exact a4 r.c
     have Za:(w3.drew.alloc (.cells #[.int .i64 k] 3)).cell? ⟨wr.heap.size,0,none⟩=some (.int .i64 r.c):=qk (w:=w3.drew) Lz _;have Zb:(w3.alloc (.cells #[.int .i64 k] 3)).cell? ⟨wr.heap.size,0,none⟩=some (.int .i64 r.c):=qk Lz _;obtain⟨i0,hi0,aJ,cj,cp⟩:=info_parts Tryz.xg;have dy:(plO O r.c).length<=4160:=gl (qle O r.c) (by have:=HJ.out.2.2.2.2.1;omega);have L0:O.length < maxLen:=PK;have HK:=lhd (aiq El (aiq PQ (aiq PR (aiq aA (aiq a1 (aiq a2 (aiq a3 (aiq a4 (aiq a5 (aiq a6 Aw))))))))));have Vp:∀ b,vr.ownBlock=some b->b≠BM:=fun b e=>(a6 r.c b (by rw[<-Aw,e])).1
     have Vq:∀ b,vr.ownBlock=some b->b≠bs:=fun b e=>(a6 r.c b (by rw[<-Aw,e])).2
     have Vr:∀ b,vr.ownBlock=some b->b < wr.heap.size:=fun b e=>(Au r.c b (by rw[<-Aw,e])).2
     have Vs:=lhd Lz;clear lf fQ El PQ PR aA a1 a2 a3 a4 a5 a6 Aw kL PJ PL PM PN PO Af Au;go_upto_region 9 with fail
     go_region_law (first
      |(refine step_append_lies _ rfl _ _ 22 rfl base 3 i0 _ 1 8 Tryz.underlying22 hi0 aJ cj cp rfl (by decide) _ _ _ rfl ((World.ownsRow.drew aC).alloc _) ⟨w3.heap.size,0,none⟩ 1 1 [.int .i64 k] rfl rfl (q7l w3.drew 3 [.int .i64 k]) (q5v _) (by decide) (by unfold maxLen;omega) (by omega) (by simp;omega) _ rfl ?_;intro g2 cg w6 aY aw dQ fJ;have pU:Mp Tryz.prog 3 w6 BM O.length g:=(Mp.alloc (w:=w3.drew) HK.out.2.2.2.2.1 _).kept aw (fun e=>Vp BM e.symm rfl);have Zc:w6.cell? ⟨wr.heap.size,0,none⟩=some (.int .i64 r.c):=ql aw (qk (w:=w3.drew) Vs.out _) (fun kk h=>by have:=Vr kk h;show wr.heap.size≠kk;omega);have F6:=lhd (aiq aY (aiq aw (aiq dQ fJ)));obtain⟨w7,eI,iW,dw⟩:=Mp.set pU Tryz.underlying3 Tryz.underlying215 L0 Bk (.slice (some ⟨g2,0,none⟩) ((plO O r.c).length+1) cg);have F7:=lhd (aiq iW dw);clear aY aw dQ fJ iW dw))
     all_goals
      go_wp2;go_roundw
      case measure=>simp[vI];omega
      case rel =>
       obtain⟨aY,fp,dQ,fJ⟩:=F6.out;have aw:(w3.drew.alloc (.cells #[.int .i64 k] 3)).grownBy w6 vr.ownBlock:=fp;obtain⟨iW,dw⟩:=F7.out;obtain⟨b1,b2,b3,b4,b5,b6,b7,b8,b9,yY,tg⟩:=HK.out;have rQ:Below w3.heap.size w3 (w3.drew.alloc (.cells #[.int .i64 k] 3)):=(qb (Below.refl _ w3) 1).alloc (nlr _) _;have oG:(w3.drew.alloc (.cells #[.int .i64 k] 3)).grownBy w6 (vm r.c).ownBlock:=by rw[<-tg];exact aw
       have ae:∀ kk,vr.ownBlock=some kk->base<=kk:=fun kk h=>(aC.lt kk h).1
       have Vu:=aw.size;have PS:(w3.drew.alloc (.cells #[.int .i64 k] 3)).heap.size=w3.heap.size+1:=World.size_alloc _ _;have oX:=dw.size;rw[PS] at Vu;have L5:∀ p:Addr,∀ u,p.block < base->p.block≠BM->w3.cell? p=some u->w7.cell? p=some u:=fun p u hp pj hu=>ql dw (ql aw (Cx.q8 rQ hu) (fun kk h=>by have:=ae kk h;omega)) (fun kk e=>by cases e;exact pj)
       have DB:Rws w7 base BM (fun b=>b=bs) (O.length+1) (q1r (plO O) r.c k):=Rws.app b5 b6 b7 b8 b9 yY (fun b h=>by subst h;omega) r.c k rQ g2 cg _ oG aY (by rw[<-tg];rcases dQ with h | h;exact .inl h;exact .inr h) iW dw;have Vv:MpI w7 BU (O.length+1) (pu (q0c O) r.c (S+pr)):=by
        obtain⟨gg,c1,c2⟩:=b1;exact⟨gg,((c1.q8 rQ).kept aw (fun e=>by have:=ae BU e.symm;omega)).kept dw (fun e=>by cases e;omega),c2⟩
       have eH:Below w.heap.size w w7:=((b4.trans (rQ.mono b4.size)).grown aw (by have:=b4.size;rw[PS];omega) (fun kk h=>by have:=ae kk h;omega)).grown dw (by have:=b4.size;omega) (fun kk e=>by cases e;omega);have e1:=HJ.out.2.2.1;refine⟨jj+1,qh (by omega),by omega,?_,?_,eH,L5 ⟨bx,2,none⟩ _ (by show bx < base;omega) (by show bx≠BM;omega) b3,?_,by omega⟩
       ·rw[e1,qfq,gc,<-HJ.out.1];exact Vv
       ·rw[e1,qim,gc];exact DB
       ·exact ql dw (ql aw (Cx.q8 rQ b2) (fun kk h=>fun e=>Vq kk h e.symm)) (fun kk e=>by cases e;show bs≠BM;omega)
    ·have dC:(oF (qx m) x.cl k).take jj=oF (qx m) x.cl k:=gm (by rw[HY.out.2.1,gn,PA.out];omega);have PT:O=q1k (qx m) x.cl (k+1):=by rw[HO.out,dC,q80]
     rw[PT] at mS mM;have Ib:=mM.qb1 (Av':=fun _=>False) (fun b h=>h.elim);have HJ:=lhd (aiq mS Ib);clear dC PT mS mM Ib;go_wp2_with fail;go_roundw
     case measure=>simp[vI];omega
     case rel=>exact⟨k+1,qh (by omega),by omega,HJ.out.1,HJ.out.2,bR.out,k2,Lu⟩
  ·have bG:q1k (qx m) x.cl k=occ (qx m) x.cl:=by
    rw[<-qb2]
    congr 1
    have:=HX.out.2.2.2;show k=x.s.length;omega
   rw[bG] at mS mM;clear bG;have Zd:BU < wr.heap.size:=mS.lt;obtain⟨gS,Af,uv⟩:=mS;obtain⟨D,ag,hD⟩:=Af;have Ad:=int_keyed (P:=Tryz.prog) (k:=3) Tryz.underlying3;obtain⟨o,ho⟩ : ∃ o,o=occ (qx m) x.cl:=⟨_,rfl⟩
   rw[<-ho] at uv ag mM;have HO:=lhd ho;have Hf:=lhd uv;obtain⟨no,dS⟩ : ∃ no,no=o.length:=⟨_,rfl⟩
   rw[<-dS] at ag mM;have Ic:=lhd dS;have Vw:no<=4096:=by
    rw[dS,ho,<-qb2];have:=qb3 (x:=x.cl) HX.out.2.2.1 x.cl.s.length;have:x.cl.s.length<=64:=HX.out.1.1;omega
   clear ho uv dS;go_wp2_with (first
    |(at_range;refine wpList_range_own _ rfl _ 122 rfl 3 3 Ad Tryz.underlying122 hld BU no D rfl ag ?_;intro wq nG tr oT)
    | go_in)
   go_frame
   obtain⟨r,hr⟩ : ∃ r,r=wr.heap.size:=⟨_,rfl⟩
   rw[<-hr] at nG ⊢;have zY:base<=r:=by omega
   have po:Below wr.heap.size wr wq:=⟨tr.os,tr.tape,tr.output,tr.size,fun b hb=>tr.block b hb (by simp)⟩
   have Vx:=(mM.q8 po).qb1 (Av':=fun _=>False) (fun b h=>h.elim);have PU:Rws wq base BM (fun b=>b=r) no (plO o):=(mM.qb1 (Av':=fun b=>b=r) (fun b h=>.inl (by omega))).q8 po;have PV:=Cx.q8 po k2;have V4:=lhd (HB.out.trans (po.mono HB.out.size));have PW:Hid (Hg D gS):=hD;have PX:base<=wq.heap.size:=gl iS po.size;clear hr mM k2 po ag hD tr oT Vx HB;go_loopw [12] (fun _ wr=>∃ (left:Lit->Bool) (mq:Nat),wr.ranges Tryz.prog 3 hld BU r no D left mq/\Hid (∀ c,(gS c).isSome=true->left (.int .i64 c)=false->q0c o c=0)/\Rws wr base BM (fun b=>b=r) no (plO o)/\Hid (Below w.heap.size w wr)/\wr.cell? ⟨bx,2,none⟩=some (.slice x.a x.n x.c)/\base<=wr.heap.size) (fun _ wr=>wr.rangeLeft BU r)
   case atStart=>exact⟨_,_,nG,(show Hid _ from fun c hc hl=>by have:=(PW.out c).1;rw[hl,hc] at this;cases this),PU,V4.out,PV,PX⟩
   case round =>
    clear nG PU PV PX;obtain⟨left,mq,iR,HF,mM,HB,k2,iS⟩:=hrel;have BP:=lhd iR;go_wp2_with (first
     |(at_next;refine wpList_next_ranges _ rfl _ rfl 3 Ad hld (Value.int .i64) (fun v:Value=>v) (fun key kl au=>by obtain⟨x,rfl,_⟩:=Maps.keyOf_int_inv Tryz.underlying3 au;exact⟨x,rfl⟩) (fun v y _=>⟨v,rfl⟩) BU r no D left mq rfl iR ?_ ?_)
     | go_in)
    ·intro eS eO;have aI:∀ c,q0c o c=0:=fun c=>by
      cases hg:gS c with
      | some v=>exact HF.out c (by rw[hg];rfl) (eO _)
      | none =>
       have:=Hf.out c;rw[hg] at this;have h2:Value.int .i64 0 = .int .i64 (q0c o c):=this;injection h2 with _ h2
       exact h2.symm
     have kH:=lhd aI;have Ib:=mM.qb1 (Av':=fun _=>False) (fun b h=>h.elim);clear eS eO aI mM iR;obtain⟨g,vm,a1,a2,a3,a4,a5,a6⟩:=Ib;obtain⟨W4,mx⟩ : ∃ W4,W4=(wr.alloc (.map #[] 0)).alloc (.cells #[.map (some wr.heap.size)] 215):=⟨_,rfl⟩
     have aF:Below wr.heap.size wr W4:=by rw[mx];exact((Below.refl _ wr).alloc (nlr _) _).alloc (by simp) _
     have oM:W4.heap.size=wr.heap.size+2:=by rw[mx];simp
     have j0:W4.cell? ⟨wr.heap.size+1,0,none⟩=some (.map (some wr.heap.size)):=by
      rw[mx];have:=qd (wr.alloc (.map #[] 0)) #[.map (some wr.heap.size)] 215 (0,0) 0;rw[World.size_alloc] at this;exact this
     have mJ:Rws W4 (wr.heap.size+3) wr.heap.size (fun _=>False) 0 (fun _=>[]):=by
      rw[mx];exact(Rws.made wr (wr.heap.size+3) (fun _=>False)).q8 ((Below.refl _ _).alloc (nlr _) _)
     obtain⟨D4,fl,PY⟩:=a1.q8 aF;have L6:BM < wr.heap.size:=a1.lt;have HA:=lhd (aiq a2 (aiq a3 (aiq a4 (aiq a5 (aiq a6 aF)))));have PZ:=Cx.q8 aF k2;have DA:=lhd (HB.out.trans (aF.mono HB.out.size));have V5:=lhd oM;clear a1 a2 a3 a4 a5 a6 aF k2 HB oM;go_wp2_with (first
      |(at_range;rw[<-mx];clear mx;refine wpList_range_own _ rfl _ 215 rfl 3 22 Ad Tryz.underlying215 hld BM no D4 rfl fl ?_;intro BT Ax Ay jQ)
      | go_in)
     try go_frame
     have oM:=V5.out;obtain⟨BJ,L7⟩ : ∃ b,b=wr.heap.size:=⟨_,rfl⟩
     obtain⟨pJ,Qa⟩ : ∃ b,b=wr.heap.size+1:=⟨_,rfl⟩
     obtain⟨r4,cA⟩ : ∃ b,b=W4.heap.size:=⟨_,rfl⟩
     obtain⟨aQ,rR⟩ : ∃ b,b=wr.heap.size+3:=⟨_,rfl⟩
     rw[<-rR] at mJ;rw[<-Qa] at j0 ⊢;rw[<-L7] at j0 mJ;rw[<-cA] at Ax ⊢;have tu:Gs (fun _=>False) W4 BT:=(Gs.refl _ W4).grown Ay (fun k e=>by cases e);have pq:Below W4.heap.size W4 BT:=⟨Ay.os,Ay.tape,Ay.output,Ay.size,fun b hb=>Ay.block b hb (by simp)⟩
     have Qb:=mJ.q8 pq;have Qc:=Cx.q8 pq j0;have V6:=Cx.q8 pq PZ;have pt:=lhd (DA.out.trans (pq.mono DA.out.size));have wW:base<=BJ/\BJ < pJ/\pJ < r4/\r4 < aQ/\aQ<=BT.heap.size/\BM < BJ:=by omega
     have L9:Hid (Hg D4 g):=PY;have jI:=lhd (aiq HA.out (aiq pq (aiq L7 cA)));have V7:=fl.size_le;clear cA L7 Qa rR mJ j0 PZ fl PY Ay jQ oM HA DA pq tu L6;go_loopw [15] (fun _ wr=>∃ (left:Lit->Bool) (mq nn:Nat) (jl:Int->List Int),wr.ranges Tryz.prog 3 hld BM r4 no D4 left mq/\Rws wr aQ BJ (fun _=>False) nn jl/\nn+2*mq<=2*no/\Hid (∀ i,(jl i).length<=nn) ∧
      Hid (∀ i k,k∈jl i↔∃ c,(g c).isSome=true/\left (.int .i64 c)=false/\(plO o c=[i,k]\/plO o c=[k,i]))/\Hid (∀ c,(g c).isSome=true->left (.int .i64 c)=false->(plO o c).length=2)/\Gs (fun b=>b=BJ\/b=r4\/aQ<=b) BT wr) (fun _ wr=>wr.rangeLeft BM r4)
     case atStart =>
      refine⟨_,_,0,fun _=>[],Ax,Qb,by omega,(show Hid _ from fun i=>nlr _),(show Hid _ from fun i k=>⟨(fun h=>by cases h),fun ⟨c,h1,h2,_⟩=>?_⟩),(show Hid _ from fun c h1 h2=>?_),Gs.refl _ _⟩
      ·have:=(L9.out c).1;rw[h1,h2] at this;cases this
      ·have:=(L9.out c).1;rw[h1,h2] at this;cases this
     case round =>
      clear Ax Qb;obtain⟨left,mq,nn,jl,iR,mJ,te,Em,En,Eo,hG⟩:=hrel;have LA:=lhd iR;go_wp2_with (first
       |(at_next;refine wpList_next_ranges _ rfl _ rfl 3 Ad hld (Value.int .i64) (fun v:Value=>v) (fun key kl au=>by obtain⟨x,rfl,_⟩:=Maps.keyOf_int_inv Tryz.underlying3 au;exact⟨x,rfl⟩) (fun v y _=>⟨v,rfl⟩) BM r4 no D4 left mq rfl iR ?_ ?_)
       | go_in)
      ·intro eS eO;go_wp2_with fail;obtain⟨W5,Az⟩ : ∃ W,W=((wr.alloc (.map #[] 0)).alloc (.cells #[.map (some wr.heap.size)] 65)).alloc (.cells #[.nilFunc] 216):=⟨_,rfl⟩
       rw[<-Az];have V8:aQ<=wr.heap.size:=gl wW.2.2.2.2.1 hG.size;have k1:W5.cell? ⟨wr.heap.size+1,0,none⟩=some (.map (some wr.heap.size)):=by
        rw[Az];have:=qd (wr.alloc (.map #[] 0)) #[.map (some wr.heap.size)] 65 (0,0) 0;simp only [World.size_alloc] at this;exact qk this _
       have k3:W5.cell? ⟨wr.heap.size+1+1,0,none⟩=some .nilFunc:=by
        rw[Az];have:=qd ((wr.alloc (.map #[] 0)).alloc (.cells #[.map (some wr.heap.size)] 65)) #[.nilFunc] 216 (0,0) 0;simp only [World.size_alloc] at this;exact this
       have f3:W5.frozen? ⟨wr.heap.size+1+1,0,none⟩=false:=by
        rw[Az];have:=jz (heap_alloc_new ((wr.alloc (.map #[] 0)).alloc (.cells #[.map (some wr.heap.size)] 65)) (.cells #[.nilFunc] 216)) 0;simp only [World.size_alloc] at this;exact this
       have kS:Mp Tryz.prog 3 W5 wr.heap.size 0 (sG (fun _=>false)):=by
        rw[Az];have h:Mp Tryz.prog 3 (wr.alloc (.map #[] 0)) wr.heap.size 0 (sG (fun _=>false)):=by
         have:=Mp.made (P:=Tryz.prog) (k:=3) wr;have e:(fun _=>none)=sG (fun _=>false):=by funext c;simp[sG]
         rw[<-e];exact this
        exact Mp.alloc (Mp.alloc h _) _
       have aH:Below wr.heap.size wr W5:=by
        rw[Az];exact(((Below.refl _ wr).alloc (nlr _) _).alloc (by simp) _).alloc (by simp;omega) _
       have Qd:W5.cell? ⟨pJ,0,none⟩=some (.map (some BJ)):=Cx.q8 aH (hG.cell (show ¬ (pJ=BJ\/pJ=r4\/aQ<=pJ) from by omega) Qc);have Qe:W5.cell? ⟨bx,2,none⟩=some (.slice x.a x.n x.c):=Cx.q8 aH (hG.cell (show ¬ (bx=BJ\/bx=r4\/aQ<=bx) from by omega) V6);obtain⟨SE,DR⟩ : ∃ p,p=wr.heap.size:=⟨_,rfl⟩
       obtain⟨p1,ml⟩ : ∃ p,p=wr.heap.size+1:=⟨_,rfl⟩
       obtain⟨p3,DQ⟩ : ∃ p,p=wr.heap.size+1+1:=⟨_,rfl⟩
       rw[<-DQ] at k3 f3 ⊢;rw[<-ml] at k1 ⊢;rw[<-DR] at k1 kS;have aq:wr.heap.size<=SE/\SE < p1/\p1 < p3/\pJ < SE/\bx < SE:=by omega
       obtain⟨fv,Ag⟩ : ∃ fv,fv=Value.func (.func 197) #[] #[.pointer (some ⟨p1,0,none⟩),.pointer (some ⟨pJ,0,none⟩),.pointer (some ⟨p3,0,none⟩)]:=⟨_,rfl⟩
       have aB:(store ⟨p3,0,none⟩ (Value.func (.func 197) #[] #[.pointer (some ⟨p1,0,none⟩),.pointer (some ⟨pJ,0,none⟩),.pointer (some ⟨p3,0,none⟩)])).run Tryz.prog W5 = .ok () (W5.setCell ⟨p3,0,none⟩ fv):=by
        rw[Ag,run_store _ _ _ _ _ rfl,k3,f3];rfl
       obtain⟨V,hV⟩ : ∃ V,V=W5.setCell ⟨p3,0,none⟩ fv:=⟨_,rfl⟩
       rw[<-hV] at aB;have v1:V.cell? ⟨p1,0,none⟩=some (.map (some SE)):=by rw[hV];exact xe k1 (by show p1≠p3;omega)
       have v2:V.cell? ⟨pJ,0,none⟩=some (.map (some BJ)):=by rw[hV];exact xe Qd (by show pJ≠p3;omega)
       have vx:V.cell? ⟨bx,2,none⟩=some (.slice x.a x.n x.c):=by rw[hV];exact xe Qe (by show bx≠p3;omega)
       have v3:V.cell? ⟨p3,0,none⟩=some (Value.func (.func 197) #[] #[.pointer (some ⟨p1,0,none⟩),.pointer (some ⟨pJ,0,none⟩),.pointer (some ⟨p3,0,none⟩)]):=by
        rw[hV,Ag];exact World.cell?_setCell_same' _ _ _ (by rw[k3];rfl)
       have aK:Below wr.heap.size wr V:=by rw[hV];exact aH.setCell (show wr.heap.size<=p3 by omega) _
       have DS:Mp Tryz.prog 3 V SE 0 (sG (fun _=>false)):=by rw[hV];exact kS.setCell (by show SE≠p3;omega) _
       have kI:Vj wr V BJ SE p1 pJ p3:=⟨aK,by omega,⟨by omega,by omega,by omega⟩,v1,v2,v3⟩
       have bM:Below w.heap.size w wr:=pt.out.trans (hG.below pt.out.size (fun b hb=>by have:=pt.out;rcases hb with h | h | h <;> omega));obtain⟨gj,vj,a1,a2,a3,a4,a5,a6⟩:=mJ;obtain⟨⟨Ep,oY⟩,dK,hT,fB⟩:=HX.out;have BV:∀ i k,k∈jl i↔∃ c,plO o c=[i,k]\/plO o c=[k,i]:=fun i k=>by
        rw[En.out i k];constructor
        ·rintro ⟨c,_,_,h⟩;exact⟨c,h⟩
        ·rintro ⟨c,h⟩;exact⟨c,(jI.out.1.2.1 c).2 (by rcases h with h | h <;> rw[h] <;> simp),eO _,h⟩
       have Er:∀ c,plO o c≠[]->(plO o c).length=2:=fun c h=>Eo.out c ((jI.out.1.2.1 c).2 h) (eO _)
       have af:=qld a1 a2 (fun i=>Sl.qc (a4 i)) (fun i=>by have:=Em.out i;omega) ((List.range x.s.length).map fun k:Nat=>(k:Int)) (fun i _ k hk=>by
         obtain⟨c,h⟩:=(BV i k).1 hk;obtain⟨k',rfl,sS⟩:=q9a (T:=qx m) (x:=x.cl) (c:=c) (i:=k) (by rw[<-HO.out];rcases h with h | h <;> rw[h] <;> simp);exact go.2 ⟨k',gC.2 sS,rfl⟩)
        (fun i hi=>by obtain⟨k',sS,rfl⟩:=go.1 hi;have:=gC.1 sS;unfold I64;omega) (-1) (fun h=>by obtain⟨k',_,e⟩:=go.1 h;omega)
        SE p1 pJ p3 _ 0 0 (fun _=>false) V (nlr _) kI DS (go.2 ⟨0,gC.2 dK,rfl⟩) (by
         have h:mu ((List.range x.s.length).map fun k:Nat=>(k:Int)) (fun _=>false)<=((List.range x.s.length).map fun k:Nat=>(k:Int)).length:=gR _ _;have h2:((List.range x.s.length).map fun k:Nat=>(k:Int)).length=x.s.length:=by simp
         omega)
       have HC:=lhd af;have HV:=lhd (aiq bM (aiq aK (aiq aq (aiq BV (aiq Er (aiq dK (aiq fB kI)))))));have V9:=lhd vx;clear Az ml DQ DR k1 k3 f3 kS aH Qd Qe af kI DS aK hV Ag bM a1 a2 a3 a4 a5 a6 Ep oY dK hT fB BV Er v1 v2 vx;rw[aB];go_wp2_with fail;refine HC.out.mono ?_;rintro e w5 ⟨rfl,BR,k',dL,Qf,C9,mK,sS,Bq⟩;obtain⟨bM,aK,yB,BV,Er,dK,fB,kI⟩:=HV.out;obtain⟨L,Qg,Es,hlen⟩:=qo5 Qf;have wY:=kI.gs BR;have y1:w5.cell? ⟨p1,0,none⟩=some (.map (some SE)):=wY.c1;have y2:w5.cell? ⟨bx,2,none⟩=some (.slice x.a x.n x.c):=BR.cell (show ¬ (bx=SE) from by omega) V9.out;have hR:=qcn (T:=qx m) (x:=x.cl) HO.out kH.out Er dK (S:=fun d=>dL d=true) Qg Es mK (J:=fun a b=>b∈jl a) BV (fun d hd=>ka.reach (fun _ h=>by cases h) C9 mK hd)
        (fun d hd=>(Bq d hd).elim (fun h=>by cases h) id)
       have A3:Below w.heap.size w w5:=bM.trans ((aK.mono bM.size).trans (BR.below (gl bM.size aK.size) (fun b hb=>by rw[hb];have:=bM.size;omega)));have px:=lhd (aiq hR (aiq A3 fB));clear Qf C9 mK sS Bq kI wY Qg Es BV Er dK hR A3 bM aK BR;by_cases og:L.length=x.n
       ·have ft:((L.length:Int) != (x.n:Int))=false:=by rw[og];simp
        have zM:=lhd og;clear og fB;go_wp2_with fail;go_ret;refine⟨?_,px.out.2.1⟩;rw[px.out.1.trans (if_pos (zM.out.trans px.out.2.2.symm))];rfl
       ·have ft:((L.length:Int) != (x.n:Int))=true:=by simp;omega
        have zM:=lhd og;clear og fB;go_wp2_with fail;go_ret;refine⟨?_,px.out.2.1⟩;rw[px.out.1.trans (if_neg (fun e=>zM.out (e.trans px.out.2.2)))];rfl
      ·intro nx cv kl y1 y2 w2 ur au cP hv bZ lK hlt dd ij mD;obtain⟨x',qE,rfl,BQ⟩:=Maps.keyOf_int_inv Tryz.underlying3 au;have DK:nx=x':=by injection qE
       subst DK;have hv2:y1 = .held cv:=by
        have:hld cv=some (.held cv,[]):=rfl;rw[this] at hv;injection hv with hv;injection hv with hv _;exact hv.symm
       subst hv2;have lL:=L9.out.qh3 bZ;have C0:cv=vm nx:=by have:=jI.out.1.1 nx;rw[lL] at this;exact this
       subst C0;have dG:Gs (fun b=>b=BJ\/b=r4\/aQ<=b) BT w2:=hG.grown dd (fun k e=>by cases e;exact .inr (.inr (.inl rfl)));have aC:=jI.out.1.2.2.1 nx;have oK:=fun b (h:(vm nx).ownBlock=some b)=>(aC.lt b h).2
       have er:Sl w2 1 (vm nx) (ints (plO o nx)):=dG.sl (((Sl.qc aC).q8 jI.out.1.2.2.2.2.2).q8 jI.out.2.1) (fun ad n c e aq=>by
        have hlt:ad.block < BJ:=by rw[jI.out.2.2.1];exact qe6 (Sl.qc aC) e aq
        intro h;rcases h with h | h | h <;> omega)
       have aq:plO o nx≠[]:=(jI.out.1.2.1 nx).1 (by rw[lL];rfl);obtain⟨va,vn,vc,uu⟩:=qg er;have Et:∀ ad,va=some ad->ad.block < BJ:=fun ad e=>by
        rw[jI.out.2.2.1];exact qe6 (Sl.qc aC) (by rw[uu,e]) (by
         obtain⟨y,ys,hy⟩:=List.exists_cons_of_ne_nil aq;rw[hy];exact fun h=>by cases h)
       rw[uu] at er mD;have tM:(plO o nx).length=vn:=by
        obtain⟨_,_,h3,_⟩:=er.open;rw[xl] at h3;omega
       have DL:(Instr.entry (.pointer (some ⟨r4,0,none⟩))).run Tryz.prog w2 = .ok (.tuple #[.int .i64 nx,.slice va vn vc]) w2:=mD;have VA:Rws w2 aQ BJ (fun _=>False) nn jl:=mJ.grown dd (by omega) (by omega);have cE:=lhd (aiq lK (aiq hlt (aiq lL (aiq cP (aiq tM er)))));clear au cP hv bZ lK hlt lL qE BQ mD iR aC oK aq uu dd ij er mJ hG;by_cases hv2:vn=2
       ·subst hv2;obtain⟨aa,bb,dc⟩ : ∃ aa bb,plO o nx=[aa,bb]:=by
         have h:=cE.out.2.2.2.2.1
         match dy:plO o nx,h with
         | [a,b],_=>exact⟨a,b,rfl⟩
        obtain⟨_,_,_,h5,h6⟩:=cE.out.2.2.2.2.2.open;obtain⟨ad,rfl⟩ : ∃ ad,va=some ad:=by
         cases va with
         | none=>have:=h5 rfl;omega
         | some ad=>exact⟨ad,rfl⟩
        have VB:w2.cell? (ad.add 0)=some (.int .i64 aa):=h6 ad rfl 0 _ (by rw[dc];rfl);have l1:w2.cell? ⟨ad.block,ad.off+1,none⟩=some (.int .i64 bb):=h6 ad rfl 1 _ (by rw[dc];rfl);clear h5 h6;go_upto_region 23 with fail;have VC:ad.block < BJ:=Et ad rfl;have l0:w2.cell? ad=some (.int .i64 aa):=by have:=VB;rwa [show ad.add 0=ad from by unfold Addr.add;rfl] at this
        have j2:w2.cell? ⟨pJ,0,none⟩=some (.map (some BJ)):=dG.cell (show ¬ (pJ=BJ\/pJ=r4\/aQ<=pJ) from by omega) Qc;have VD:I64 aa:=(qeb HO.out HX.out.1.1 (by rw[dc];simp))
        have VE:I64 bb:=(qeb HO.out HX.out.1.1 (by rw[dc];simp))
        have Eu:=yx VD;have Ev:=yx VE;have pz:=Em.out;have VF:nn+2<=2*no:=by have:=cE.out.2.1;omega
        have LB:aQ<=w2.heap.size:=gl wW.2.2.2.2.1 dG.size;obtain⟨i0,hi0,aJ,cj,cp⟩:=info_parts Tryz.xg;obtain⟨gA,Qh,Ie,LC,Qi,LD,Qj,Qk⟩:=VA;obtain⟨Ig,uy⟩ : ∃ vr,vr=Qh aa:=⟨_,rfl⟩
        have kL:∀ X:World,Mp Tryz.prog 3 X BJ (nn) gA->(Instr.lookup 215 (.map (some BJ)) (.int .i64 aa) false).run Tryz.prog X = .ok Ig X:=fun X hX=>by
         have:=hX.look Tryz.underlying3 Tryz.underlying215 (q42 X) Eu;rw[this,LC aa,uy]
        have VG:=kL w2.drew Ie;have VH:=kL (w2.drew.alloc (.cells #[.int .i64 bb] 3)) (Mp.alloc (w:=w2.drew) Ie _);have VI:=kL (w2.alloc (.cells #[.int .i64 bb] 3)).drew (Mp.alloc Ie _);have wZ:w2.ownsRow aQ 3 1 Ig (jl aa).length (ints (jl aa)):=by rw[uy];exact LD aa
        have rS:∀ b,Ig.ownBlock=some b->aQ<=b:=fun b h=>(wZ.lt b h).1
        have Ze:(w2.alloc (.cells #[.int .i64 bb] 3)).cell? ad=some (.int .i64 aa):=qk l0 _;have Zf:(w2.alloc (.cells #[.int .i64 bb] 3)).cell? ⟨ad.block,ad.off+1,none⟩=some (.int .i64 bb):=qk l1 _;have Zg:(w2.alloc (.cells #[.int .i64 bb] 3)).cell? ⟨pJ,0,none⟩=some (.map (some BJ)):=qk j2 _;have VJ:(jl aa).length<=8192:=by have:=pz aa;omega
        have LF:nn < maxLen:=by unfold maxLen;omega
        have Ew:=lhd (aiq Ie (aiq LC (aiq Qi (aiq LD (aiq Qj (aiq Qk (aiq uy (aiq l0 (aiq l1 j2)))))))));clear LC Qi LD Qj Qk uy kL
        go_cut [15] from 81 to 94 (fun p wx=>p=Value.slice (some ad) 2 vc/\Gs (fun b=>b=BJ\/aQ<=b) w2 wx/\Rws wx aQ BJ (fun _=>False) (nn+1) (q1r jl aa bb))
        case first =>
         rename_i Jx Kx LG LH
         go_region_held_law (fun w'=>w'.cell? ⟨pJ,0,none⟩=some (.map (some BJ))/\w'.cell? ad=some (.int .i64 aa)/\w'.cell? ⟨ad.block,ad.off+1,none⟩=some (.int .i64 bb)) (first | exact⟨j2,l0,l1⟩ | exact⟨qk (w:=w2.drew) j2 _,qk (w:=w2.drew) l0 _,qk (w:=w2.drew) l1 _⟩ | exact⟨rj,r0,r1⟩ | exact⟨sj,s0,s1⟩) (first
          |(refine step_append_lies _ rfl _ _ 22 rfl aQ 3 i0 _ 1 8 Tryz.underlying22 hi0 aJ cj cp rfl (by decide) _ _ _ rfl ((World.ownsRow.drew wZ).alloc _) ⟨w2.heap.size,0,none⟩ 1 1 [.int .i64 bb] rfl rfl (q7l w2.drew 3 [.int .i64 bb]) (q5v _) (by decide) (by unfold maxLen;omega) (by omega) (by simp;omega) _ rfl ?_;intro g2 cg w6 aY aw dQ fJ;have pU:Mp Tryz.prog 3 w6 BJ (nn) gA:=(Mp.alloc (w:=w2.drew) Ew.out.1 _).kept aw (fun e=>by have:=rS BJ e.symm;omega);have r0:w6.cell? ad=some (.int .i64 aa):=ql aw (qk (w:=w2.drew) Ew.out.2.2.2.2.2.2.2.1 _) (fun kk h=>by have:=rS kk h;omega);have r1:w6.cell? ⟨ad.block,ad.off+1,none⟩=some (.int .i64 bb):=ql aw (qk (w:=w2.drew) Ew.out.2.2.2.2.2.2.2.2.1 _) (fun kk h=>by have:=rS kk h;show ad.block≠kk;omega);have rj:w6.cell? ⟨pJ,0,none⟩=some (.map (some BJ)):=ql aw (qk (w:=w2.drew) Ew.out.2.2.2.2.2.2.2.2.2 _) (fun kk h=>by have:=rS kk h;show pJ≠kk;omega);have F6:=lhd (aiq aY (aiq aw (aiq dQ fJ)));obtain⟨w7,eI,iW,dw⟩:=Mp.set pU Tryz.underlying3 Tryz.underlying215 LF Eu (.slice (some ⟨g2,0,none⟩) ((jl aa).length+1) cg);have s0:w7.cell? ad=some (.int .i64 aa):=ql dw r0 (fun kk h=>by cases h;show ad.block≠BJ;omega);have s1:w7.cell? ⟨ad.block,ad.off+1,none⟩=some (.int .i64 bb):=ql dw r1 (fun kk h=>by cases h;show ad.block≠BJ;omega);have sj:w7.cell? ⟨pJ,0,none⟩=some (.map (some BJ)):=ql dw rj (fun kk h=>by cases h;show pJ≠BJ;omega);have F7:=lhd (aiq iW dw);clear aY aw dQ fJ iW dw))
         all_goals
          ((try go_step);refine LH _ _ (Met.intro ?_);refine LG _ _ ?_;(repeat apply Exists.intro);refine⟨?rel,rfl⟩)
          case rel =>
           obtain⟨aY,fp,dQ,fJ⟩:=F6.out;have aw:(w2.drew.alloc (.cells #[.int .i64 bb] 3)).grownBy w6 Ig.ownBlock:=fp;obtain⟨iW,dw⟩:=F7.out;obtain⟨b5,b6,b7,b8,b9,yY,tg,_⟩:=Ew.out;have rQ:Below w2.heap.size w2 (w2.drew.alloc (.cells #[.int .i64 bb] 3)):=(qb (Below.refl _ w2) 1).alloc (nlr _) _;have oG:(w2.drew.alloc (.cells #[.int .i64 bb] 3)).grownBy w6 (Qh aa).ownBlock:=by rw[<-tg];exact aw
           exact⟨rfl,((Gs.xh rQ).grown aw (fun kk h=>.inr (.inr (rS kk h)))).grown dw (fun kk e=>by cases e;exact .inr (.inl rfl)),Rws.app b5 b6 b7 b8 b9 yY (fun b h=>h.elim) aa bb rQ g2 cg _ oG aY (by rw[<-tg];rcases dQ with h | h;exact .inl h;exact .inr h) iW dw⟩
        case rest =>
         obtain⟨rfl,BW,VK⟩:=hcut;go_upto_region 24 with fail;have fC:¬ (ad.block=BJ\/aQ<=ad.block):=by omega
         have VL:¬ (pJ=BJ\/aQ<=pJ):=by omega
         have Ql:wc.cell? ad=some (.int .i64 aa):=BW.cell fC l0;have Qm:wc.cell? ⟨ad.block,ad.off+1,none⟩=some (.int .i64 bb):=BW.cell (show ¬ (ad.block=BJ\/aQ<=ad.block) from fC) l1;have Qn:wc.cell? ⟨pJ,0,none⟩=some (.map (some BJ)):=BW.cell (show ¬ (pJ=BJ\/aQ<=pJ) from VL) j2;have xA:∀ i,(q1r jl aa bb i).length<=nn+1:=qb4 pz aa bb;have VM:aQ<=wc.heap.size:=gl LB BW.size;clear l0 l1 j2;have l0:=Ql;have l1:=Qm;have j2:=Qn;clear Ql Qm Qn pz;have pz:=xA;clear xA;obtain⟨gB,Qo,Ih,LI,Qp,LJ,Qq,Qr⟩:=VK;obtain⟨Ii,uz⟩ : ∃ vr,vr=Qo bb:=⟨_,rfl⟩
         have uA:∀ X:World,Mp Tryz.prog 3 X BJ ((nn+1)) gB->(Instr.lookup 215 (.map (some BJ)) (.int .i64 bb) false).run Tryz.prog X = .ok Ii X:=fun X hX=>by
          have:=hX.look Tryz.underlying3 Tryz.underlying215 (q42 X) Ev;rw[this,LI bb,uz]
         have VN:=uA wc.drew Ih;have VO:=uA (wc.drew.alloc (.cells #[.int .i64 aa] 3)) (Mp.alloc (w:=wc.drew) Ih _);have VP:=uA (wc.alloc (.cells #[.int .i64 aa] 3)).drew (Mp.alloc Ih _);have xB:wc.ownsRow aQ 3 1 Ii ((q1r jl aa bb) bb).length (ints ((q1r jl aa bb) bb)):=by rw[uz];exact LJ bb
         have rT:∀ b,Ii.ownBlock=some b->aQ<=b:=fun b h=>(xB.lt b h).1
         have Zh:(wc.alloc (.cells #[.int .i64 aa] 3)).cell? ad=some (.int .i64 aa):=qk l0 _;have Zi:(wc.alloc (.cells #[.int .i64 aa] 3)).cell? ⟨ad.block,ad.off+1,none⟩=some (.int .i64 bb):=qk l1 _;have Zj:(wc.alloc (.cells #[.int .i64 aa] 3)).cell? ⟨pJ,0,none⟩=some (.map (some BJ)):=qk j2 _;have VQ:((q1r jl aa bb) bb).length<=8192:=by have:=pz bb;omega
         have LK:(nn+1) < maxLen:=by unfold maxLen;omega
         have Ex:=lhd (aiq Ih (aiq LI (aiq Qp (aiq LJ (aiq Qq (aiq Qr (aiq uz (aiq l0 (aiq l1 j2)))))))));clear LI Qp LJ Qq Qr uz uA
         go_region_held_law (fun w'=>w'.cell? ⟨pJ,0,none⟩=some (.map (some BJ))/\w'.cell? ad=some (.int .i64 aa)/\w'.cell? ⟨ad.block,ad.off+1,none⟩=some (.int .i64 bb)) (first | exact⟨j2,l0,l1⟩ | exact⟨qk (w:=wc.drew) j2 _,qk (w:=wc.drew) l0 _,qk (w:=wc.drew) l1 _⟩ | exact⟨rj,r0,r1⟩ | exact⟨sj,s0,s1⟩) (first
          |(refine step_append_lies _ rfl _ _ 22 rfl aQ 3 i0 _ 1 8 Tryz.underlying22 hi0 aJ cj cp rfl (by decide) _ _ _ rfl ((World.ownsRow.drew xB).alloc _) ⟨wc.heap.size,0,none⟩ 1 1 [.int .i64 aa] rfl rfl (q7l wc.drew 3 [.int .i64 aa]) (q5v _) (by decide) (by unfold maxLen;omega) (by omega) (by simp;omega) _ rfl ?_;intro g2 cg w6 aY aw dQ fJ;have pU:Mp Tryz.prog 3 w6 BJ ((nn+1)) gB:=(Mp.alloc (w:=wc.drew) Ex.out.1 _).kept aw (fun e=>by have:=rT BJ e.symm;omega);have r0:w6.cell? ad=some (.int .i64 aa):=ql aw (qk (w:=wc.drew) Ex.out.2.2.2.2.2.2.2.1 _) (fun kk h=>by have:=rT kk h;omega);have r1:w6.cell? ⟨ad.block,ad.off+1,none⟩=some (.int .i64 bb):=ql aw (qk (w:=wc.drew) Ex.out.2.2.2.2.2.2.2.2.1 _) (fun kk h=>by have:=rT kk h;show ad.block≠kk;omega);have rj:w6.cell? ⟨pJ,0,none⟩=some (.map (some BJ)):=ql aw (qk (w:=wc.drew) Ex.out.2.2.2.2.2.2.2.2.2 _) (fun kk h=>by have:=rT kk h;show pJ≠kk;omega);have F6:=lhd (aiq aY (aiq aw (aiq dQ fJ)));obtain⟨w7,eI,iW,dw⟩:=Mp.set pU Tryz.underlying3 Tryz.underlying215 LK Ev (.slice (some ⟨g2,0,none⟩) (((q1r jl aa bb) bb).length+1) cg);have s0:w7.cell? ad=some (.int .i64 aa):=ql dw r0 (fun kk h=>by cases h;show ad.block≠BJ;omega);have s1:w7.cell? ⟨ad.block,ad.off+1,none⟩=some (.int .i64 bb):=ql dw r1 (fun kk h=>by cases h;show ad.block≠BJ;omega);have sj:w7.cell? ⟨pJ,0,none⟩=some (.map (some BJ)):=ql dw rj (fun kk h=>by cases h;show pJ≠BJ;omega);have F7:=lhd (aiq iW dw);clear aY aw dQ fJ iW dw))
         all_goals
          obtain⟨aY,fp,dQ,fJ⟩:=F6.out;have aw:(wc.drew.alloc (.cells #[.int .i64 aa] 3)).grownBy w6 Ii.ownBlock:=fp;obtain⟨iW,dw⟩:=F7.out;obtain⟨b5,b6,b7,b8,b9,yY,tg,_⟩:=Ex.out;have rQ:Below wc.heap.size wc (wc.drew.alloc (.cells #[.int .i64 aa] 3)):=(qb (Below.refl _ wc) 1).alloc (nlr _) _;have oG:(wc.drew.alloc (.cells #[.int .i64 aa] 3)).grownBy w6 (Qo bb).ownBlock:=by rw[<-tg];exact aw
          have Qs:Gs (fun b=>b=BJ\/aQ<=b) wc w7:=((Gs.xh rQ).grown aw (fun kk h=>.inr (.inr (rT kk h)))).grown dw (fun kk e=>by cases e;exact .inr (.inl rfl));have VR:Rws w7 aQ BJ (fun _=>False) (nn+1+1) (q1r (q1r jl aa bb) bb aa):=Rws.app b5 b6 b7 b8 b9 yY (fun b h=>h.elim) bb aa rQ g2 cg _ oG aY (by rw[<-tg];rcases dQ with h | h;exact .inl h;exact .inr h) iW dw;have Qt:Gs (fun b=>b=BJ\/b=r4\/aQ<=b) BT w7:=(dG.trans (BW.mono (fun b _ h=>h.elim .inl (fun h=>.inr (.inr h))))).trans (Qs.mono (fun b _ h=>h.elim .inl (fun h=>.inr (.inr h))));have Ey:=q81 Qs (q81 BW cE.out.1 (by omega) (by omega)) (by omega) (by omega);have A4:=lhd (aiq Ey Qt);clear Ey Qt;go_wp2_with fail;go_roundw
          case measure=>rw[A4.out.1.left_eq,LA.out.left_eq];exact cE.out.2.1
          case rel =>
           refine⟨_,_,nn+2,_,A4.out.1,VR,by have:=cE.out.2.1;omega,(show Hid _ from qb4 pz bb aa),(show Hid _ from fun i k=>?_),(show Hid _ from fun c hc hl=>?_),A4.out.2⟩
           ·rw[qb5,qb5,En.out i k];constructor
            ·rintro ((⟨c,hc,hl,h⟩ | ⟨rfl,rfl⟩) | ⟨rfl,rfl⟩)
             ·exact⟨c,hc,by rw[hl];rfl,h⟩
             ·exact⟨nx,by rw[cE.out.2.2.1];rfl,by rw[q82];simp,.inl dc⟩
             ·exact⟨nx,by rw[cE.out.2.2.1];rfl,by rw[q82];simp,.inr dc⟩
            ·rintro ⟨c,hc,hl,h⟩;by_cases rU:c=nx
             ·subst rU;rw[dc] at h;rcases h with h | h
              ·injection h with e1 h;injection h with e2 _;subst e1 e2;exact .inl (.inr ⟨rfl,rfl⟩)
              ·injection h with e1 h;injection h with e2 _;subst e1 e2;exact .inr ⟨rfl,rfl⟩
             ·exact .inl (.inl ⟨c,hc,qea hl rU,h⟩)
           ·by_cases rU:c=nx
            ·subst rU;rw[dc];rfl
            ·exact Eo.out c hc (qea hl rU)
       ·have Cy:((vn:Int) != 2)=true:=by simp;omega
        have kY:((vn:Int) == 2)=false:=by simp;omega
        have hE:xv (qx m) x.cl=25:=by
         have dy:plO o nx≠[]:=fun e=>by
          have:=(jI.out.1.2.1 nx).1 (by rw[cE.out.2.2.1];rfl);exact this e
         have h3:(occAt o nx).length=vn:=by rw[<-cE.out.2.2.2.2.1];unfold plO;rw[gn]
         have h2:occAt o nx≠[]:=fun e=>dy (by unfold plO;rw[e];rfl)
         obtain⟨p,hp⟩:=List.exists_mem_of_ne_nil _ h2;have kZ:=gL.1 hp;have lJ:p.1=nx:=by simpa using kZ.2
         unfold xv;rw[<-HO.out,if_neg (fun ⟨q,_,hq⟩=>hq (kH.out q.1)),if_pos ⟨p,kZ.1,by rw[lJ,h3];exact hv2⟩]
        have HE:=lhd hE;have A3:Below w.heap.size w w2:=pt.out.trans (dG.below pt.out.size (fun b hb=>by have:=pt.out;rcases hb with h | h | h <;> omega));have VS:=lhd A3;clear hE hv2 A3;go_wp2_with fail;go_ret;exact⟨by rw[HE.out];rfl,VS.out⟩
    ·intro nx cv kl y1 y2 w2 ur au cP hv bZ lK hlt dd ij mD;obtain⟨x',qE,rfl,BQ⟩:=Maps.keyOf_int_inv Tryz.underlying3 au;have DK:nx=x':=by injection qE
     subst DK;have hv2:y1 = .held cv:=by
      have:hld cv=some (.held cv,[]):=rfl;rw[this] at hv;injection hv with hv;injection hv with hv _;exact hv.symm
     subst hv2;have lL:=PW.out.qh3 bZ;have C0:cv = .int .i64 (q0c o nx):=by have:=Hf.out nx;rw[lL] at this;exact this
     subst C0;obtain⟨S,hS⟩ : ∃ S,S=q0c o nx:=⟨_,rfl⟩
     rw[<-hS] at mD;have DL:(Instr.entry (.pointer (some ⟨r,0,none⟩))).run Tryz.prog w2 = .ok (.tuple #[.int .i64 nx,.int .i64 S]) w2:=mD;have VT:w2.cell? ⟨bx,2,none⟩=some (.slice x.a x.n x.c):=ql dd k2 (fun k e=>by cases e;show bx≠r;omega);have ar:Below w.heap.size w w2:=HB.out.grown dd HB.out.size (fun k e=>by cases e;omega);have Qu:Rws w2 base BM (fun b=>b=r) no (plO o):=by
      obtain⟨g,vm,a1,a2,a3,a4,a5,a6⟩:=mM;refine⟨g,vm,a1.kept dd (fun e=>by cases e;omega),a2,a3,fun c=>(a4 c).kept dd ?_,a5,a6⟩;cases h:(vm c).ownBlock with
      | none=>exact .inl rfl
      | some b=>exact .inr fun e=>(a6 c b h).2 (by injection e)
     have cE:=lhd (aiq lK (aiq hlt (aiq hS (aiq Qu (aiq ar (aiq lL cP))))));have cp:base<=w2.heap.size:=by have:=dd.size;omega
     clear au cP hv bZ lK hlt lL qE BQ mD iR mM hS k2 dd ij Qu ar;by_cases cU:S=0
     ·subst cU;go_wp2_with fail;go_roundw
      case measure=>rw[cE.out.1.left_eq,BP.out.left_eq];exact cE.out.2.1
      case rel =>
       refine⟨_,_,cE.out.1,(show Hid _ from fun c hc hl=>?_),cE.out.2.2.2.1,cE.out.2.2.2.2.1,VT,cp⟩;by_cases rU:c=nx
       ·rw[rU];exact cE.out.2.2.1.symm
       ·have:(Lit.int .i64 c).sameKey (.int .i64 nx)=false:=by simp[Lit.sameKey,rU]
        rw[this] at hl;exact HF.out c hc (by simpa using hl)
     ·have Cy:(S != 0)=true:=by simpa using cU
      have kY:(S == 0)=false:=by simpa using cU
      have hE:xv (qx m) x.cl=24:=by
       have h1:q0c (occ (qx m) x.cl) nx≠0:=by rw[<-HO.out,<-cE.out.2.2.1];exact cU
       have h2:occAt (occ (qx m) x.cl) nx≠[]:=fun e=>h1 (by unfold q0c;rw[e];rfl)
       obtain⟨p,hp⟩:=List.exists_mem_of_ne_nil _ h2;have kZ:=gL.1 hp;have lJ:p.1=nx:=by simpa using kZ.2
       unfold xv;rw[if_pos ⟨p,kZ.1,by rw[lJ];exact h1⟩]
      have HE:=lhd hE;clear hE cU;go_wp2_with fail;go_ret;exact⟨by rw[HE.out];rfl,cE.out.2.2.2.2.1⟩
end Go.Proofs.YtlhicnfeajejhaaGreatDoor
namespace Go.Cx
theorem q6l {α:Type} (key:α->Int) (L:List α) (c:Int):(xb key L).find? (fun x=>key x == c)=L.find? (fun x=>key x == c):=by
 cases hf:(xb key L).find? (fun x=>key x == c) with
 | some X =>
  have h1:=bi hf;have h2:=List.find?_some hf;have h2:key X=c:=by simpa using h2
  subst h2;exact(q4n (key:=key) L X h1).symm
 | none =>
  symm
  rw[List.find?_eq_none] at hf ⊢;intro Y hY hk;obtain⟨X,hX,e⟩:=(q75 (key:=key) c).2 ⟨Y,hY,by simpa using hk⟩;exact hf X hX (by simpa using e)
theorem q1l {T:Int->Option Cl} {x:Cl} (h:xx T x=0):x.s.length<=64/\(∀ s∈x.s,s.g=1\/s.g = -1)/\(1 < x.dim->0 < x.s.length):=by
 unfold xx at h;split at h
 ·cases h
 ·rename_i h1;split at h
  ·cases h
  ·rename_i h2;split at h
   ·cases h
   ·split at h
    ·cases h
    ·rename_i h4;refine⟨by omega,fun s hs=>?_,by omega⟩;apply gD;intro hn;apply h4;rw[List.any_eq_true];exact⟨s,hs,by simp;omega⟩
theorem qfs {T:Int->Option Cl} {K:List Cl} {k:Nat} {x:Cl} (hk:K[k]? = some x) (last:Int) :
  q0a T last (K.drop k)=if x.id<=last then some (x.id,20) else if xx T x≠0 then some (x.id,xx T x) else q0a T x.id (K.drop (k+1)):=by
 obtain⟨h,rfl⟩:=ge.1 hk;rw[gY h];rfl
theorem qft {T:Int->Option Cl} {K:List Cl} {k:Nat} {x:Cl} (hk:K[k]? = some x) :
  k9 T (K.drop k)=if 1 < x.dim/\xv T x≠0 then some (x.id,xv T x) else k9 T (K.drop (k+1)):=by
 obtain⟨h,rfl⟩:=ge.1 hk;rw[gY h];rfl
end Go.Cx
namespace Go.Proofs.YtlhicnfeajejhaaGreatDoor
open Go.Cx Go.RowKit
theorem qlg {m:List Ce} {K:List Cl} (h:m.map Ce.cl=canon K):qx m=cAt K:=by
 funext c
 unfold qx cAt cellsOf;rw[q6l,<-h,List.find?_map];rfl
theorem q6m {mm l:List Ce} (dV:mm.map Ce.cl=canon (l.map Ce.cl)) (hok:COk l):∀ x∈mm,I64 x.id/\I64 x.dim/\∀ s∈x.s,I64 s.c/\I64 s.g:=fun x hx=>by
 have h1:x.cl∈canon (l.map Ce.cl):=by rw[<-dV];exact gI hx
 unfold canon at h1;obtain⟨y,hy,e⟩:=go.1 h1;obtain⟨z,hz,rfl⟩:=go.1 ((q2m _ _).1 hy);have e1:z.id=x.id:=congrArg Cl.id e;have e2:z.dim=x.dim:=congrArg Cl.dim e;have e3:stb Sd.c z.s=x.s:=congrArg Cl.s e;obtain⟨⟨a1,a2⟩,_,a3⟩:=hok z hz;exact⟨e1 ▸ a1,e2 ▸ a2,fun s hs=>a3 s ((q2m _ _).1 (e3 ▸ hs))⟩
theorem qlh (v:Value) (l:List Ce) (w:World) (h:SlC w v l) (hl:l.length<=1099511627776) (hok:COk l) :
  Calls Tryz.prog 150 #[.agg #[v]] w fun e w'=>e = .returned (.tuple #[.int .i64 (chk (l.map Ce.cl)).1,.int .i64 (chk (l.map Ce.cl)).2])/\Below w.heap.size w w':=by
 obtain⟨a,len,cap,rfl⟩:=qg h.1;have hlen:l.length=len:=by
  obtain⟨_,_,h3,_⟩:=h.1.open;rw[qt Ce.qp] at h3;omega
 have HA:=lhd (aiq h (aiq hl hok));have HL:=lhd hlen;clear h hl hok hlen;by_cases h4:4000 < len
 ·have hE:chk (l.map Ce.cl)=(0,2):=by unfold chk;rw[if_pos (by rw[gn,HL.out];exact h4)]
  have HE:=lhd hE;clear hE;go_enter Tryz.func150,Tryz.ntmps150;go_wp2_with fail;go_ret2;exact⟨by rw[HE.out];rfl,(Below.refl _ w).alloc (nlr _) _⟩
 ·have hE:chk (l.map Ce.cl)=match q0a (cAt (l.map Ce.cl)) 0 (canon (l.map Ce.cl)) with | some e=>e | none=>(k9 (cAt (l.map Ce.cl)) (canon (l.map Ce.cl))).getD (0,0):=by
   unfold chk;rw[if_neg (by rw[gn,HL.out];exact h4)];rfl
  have HE:=lhd hE;clear hE;go_enter Tryz.func150,Tryz.ntmps150;go_wp2_with fail;obtain⟨W,hW⟩ : ∃ W:World,W=w.alloc (.cells #[.slice a len cap] 26):=⟨_,rfl⟩
  rw[<-hW];have bP:Below w.heap.size w W:=by rw[hW];exact(Below.refl _ w).alloc (nlr _) _
  have kb:W.cell? ⟨w.heap.size,0,none⟩=some (.slice a len cap):=by rw[hW];exact qd w #[.slice a len cap] 26 (0,0) 0
  clear hW;refine(qnb _ l W (HA.out.1.q8 bP) HA.out.2.1 HA.out.2.2).mono ?_;rintro e w1 ⟨T,rfl,hT,ak⟩;have LM:=Cx.q8 ak kb;have jE:Below w.heap.size w w1:=bP.trans (ak.mono bP.size);have HT:=lhd hT;have aV:=lhd jE;clear hT jE ak kb bP;go_wp2_with fail;refine(q8l _ l w1 (HA.out.1.q8 aV.out) HA.out.2.1 (fun x hx=>(HA.out.2.2 x hx).2.1)).mono ?_;rintro e w2 ⟨r,mm,rfl,dV,aC,iU,ar⟩;obtain⟨B,nT,Zk,m,_,_,t3,_,t5,_,t7,t8⟩:=HT.out;have cY:Below w.heap.size w w2:=aV.out.trans (ar.mono aV.out.size);have q0:w2.cell? ⟨T,0,none⟩=some (.map (some B)):=Cx.q8 ar t3;have Ez:=t5.q8 ar;have iD:∀ y∈m,Sl w2 2 y.sl (cat Sd.enc y.s):=fun y hy=>(t8 y hy).q8 ar
  have jC:=Sl.qc aC;obtain⟨a2,n2,c2,rfl⟩:=qg jC;have iT:∀ x∈mm,Sl w2 2 x.sl (cat Sd.enc x.s):=fun x hx=>Sl.qc (iU x hx)
  have kY:mm.length=n2:=by
   obtain⟨_,_,h3,_⟩:=jC.open;rw[qt Ce.qp] at h3;omega
  have VU:n2<=2 ^ 62:=by
   have h1:mm.length=l.length:=by rw[<-gn (f:=Ce.cl),dV,q0z,gn]
   have:=HA.out.2.1;omega
  have Jt:=qlg t7;obtain⟨KK,Ij⟩ : ∃ KK,KK=canon (l.map Ce.cl):=⟨_,rfl⟩
  have BC:Hid (chk (l.map Ce.cl)=match q0a (qx m) 0 KK with | some e=>e | none=>(k9 (qx m) KK).getD (0,0)):=by
   show chk (l.map Ce.cl)=_;rw[HE.out,Jt,Ij]
  have HM:Hid (mm.map Ce.cl=KK):=by show mm.map Ce.cl=KK;rw[Ij];exact dV
  have HI:=lhd (q6m dV HA.out.2.2);have LN:Hid (∀ c y,qx m c=some y->y∈KK/\∀ s∈y.s,I64 s.c):=fun c y hy=>by
   obtain⟨z,hz,_,e,_⟩:=(q97 m c).2 y hy;subst e;exact⟨by rw[Ij,<-t7];exact gI hz,fun s hs=>((q6m t7 HA.out.2.2 z hz).2.2 s hs).1⟩
  have oo:=q3b a2 n2 c2;have yO:=lhd (aiq q0 (aiq Ez iD));have HC:=lhd (aiq jC iT);have HN:=lhd kY;have bR:=lhd cY;clear dV aC iU ar t3 t5 t7 t8 cY q0 Ez iD jC iT kY Jt Ij LM h4;go_wp2_with fail;clear oo;go_loopw [5,24] (fun la i wr=>∃ (k:Nat) (last:Int),i = .int .i64 k/\la = .int .i64 last/\k<=n2/\Hid (q0a (qx m) 0 KK=q0a (qx m) last (KK.drop k))/\Below w2.heap.size w2 wr) (fun _ i _=>n2 - (vI i).toNat)
  case atStart=>exact⟨0,0,rfl,rfl,gp _,(show Hid _ from rfl),Below.refl _ _⟩
  case round =>
   obtain⟨k,last,rfl,rfl,hk,HK,hB⟩:=hrel;by_cases hlt:k < n2
   ·obtain⟨x,hx⟩ : ∃ x,mm[k]? = some x:=⟨_,g8 (by rw[HN.out];exact hlt)⟩
    obtain⟨h2,h3,h4,h5,h6⟩:=HC.out.1.open;obtain⟨ad,rfl⟩ : ∃ ad,a2=some ad:=by
     cases a2 with
     | none=>have:=h5 rfl;omega
     | some ad=>exact⟨ad,rfl⟩
    obtain⟨e0,e1,e2⟩:=zh mm k x hx;have d0:wr.cell? (ad.add (k*3))=some (.int .i64 x.id):=Cx.q8 hB (h6 ad rfl _ _ e0);have d1:wr.cell? ⟨(ad.add (k*3)).block,(ad.add (k*3)).off+1,none⟩=some (.int .i64 x.dim):=by rw[qi _ _ _ (by omega)];exact Cx.q8 hB (h6 ad rfl _ _ e1)
    have d2:wr.cell? ⟨(ad.add (k*3)).block,(ad.add (k*3)).off+2,none⟩=some (.slice x.a x.n x.c):=by rw[qi _ _ _ (by omega)];exact Cx.q8 hB (h6 ad rfl _ _ e2)
    have oI:=gh hx;have hKk:KK[k]? = some x.cl:=by rw[<-HM.out,List.getElem?_map,hx];rfl
    have aS:q0a (qx m) last (KK.drop k)=if x.id<=last then some (x.id,20) else if xx (qx m) x.cl≠0 then some (x.id,xx (qx m) x.cl) else q0a (qx m) x.id (KK.drop (k+1)):=qfs (T:=qx m) hKk last
    have aK:Below wr.heap.size wr (wr.alloc (.cells #[.int .i64 x.id,.int .i64 x.dim,.slice x.a x.n x.c] 75)):=(Below.refl _ wr).alloc (nlr _) _;have HX:=lhd (aiq oI (aiq aS (aiq aK hB)));clear h2 h3 h4 h5 h6 e0 e1 e2 hx oI hKk aS aK hB;by_cases hle:x.id<=last
    ·have hr:chk (l.map Ce.cl)=(x.id,20):=by rw[BC.out,HK.out,HX.out.2.1,if_pos hle]
     have HR:=lhd hr;clear hr;go_wp2_with fail;go_ret2;refine⟨?_,bR.out.trans ((HX.out.2.2.2.trans (HX.out.2.2.1.mono HX.out.2.2.2.size)).mono bR.out.size)⟩;rw[HR.out];rfl
    ·have Em:=lhd (aiq hle trivial);have VV:last < x.id:=by omega
     clear hle;go_wp2_with fail;obtain⟨V,hV⟩ : ∃ V:World,V=wr.alloc (.cells #[.int .i64 x.id,.int .i64 x.dim,.slice x.a x.n x.c] 75):=⟨_,rfl⟩
     have v0:V.cell? ⟨wr.heap.size,0,none⟩=some (.int .i64 x.id):=by rw[hV];exact qd wr #[.int .i64 x.id,.int .i64 x.dim,.slice x.a x.n x.c] 75 (0,0) 0
     have ik:Below w2.heap.size w2 V:=HX.out.2.2.2.trans (by rw[hV];exact HX.out.2.2.1.mono HX.out.2.2.2.size);rw[<-hV];have HV:=lhd ik;have af:=qo3 T B nT m x V (Cx.q8 ik yO.out.1) (yO.out.2.1.q8 ik) ((HC.out.2 x HX.out.1).q8 ik) (HI.out x HX.out.1).2.1 (HI.out x HX.out.1).2.2;clear hV ik;refine af.mono ?_;rintro e w3 ⟨rfl,aA⟩;have VW:=Cx.q8 aA v0;have eP:=lhd (HV.out.trans (aA.mono HV.out.size));clear af v0 aA;obtain⟨F,hF⟩ : ∃ F,F=xx (qx m) x.cl:=⟨_,rfl⟩
     rw[<-hF];have HF:=lhd hF;by_cases xC:F=0
     ·subst xC;have iZ:q0a (qx m) 0 KK=q0a (qx m) x.id (KK.drop (k+1)):=by
       rw[HK.out,HX.out.2.1,if_neg (Int.not_le.2 Em.out.1),if_neg (fun h=>h HF.out.symm)]
      have E0:=lhd iZ;clear hF iZ;go_wp2_with fail;go_roundw
      case measure=>simp[vI];omega
      case rel=>exact⟨k+1,x.id,qh (by omega),rfl,by omega,E0,eP.out⟩
     ·have E4:(F != 0)=true:=by simpa using xC
      have hr:chk (l.map Ce.cl)=(x.id,F):=by rw[BC.out,HK.out,HX.out.2.1,if_neg (Int.not_le.2 Em.out.1),if_pos (by rw[<-HF.out];exact xC),hF]
      have HR:=lhd hr;clear hr hF;go_wp2_with fail;go_ret2;exact⟨by rw[HR.out];rfl,bR.out.trans (eP.out.mono bR.out.size)⟩
   ·have nC:k=n2:=by omega
    have lO:q0a (qx m) 0 KK=none:=by
     rw[HK.out,List.drop_eq_nil_of_le (by rw[<-HM.out,gn,HN.out];omega)];rfl
    have xD:=lhd lO;have Kz:=lhd hB;have fE:((k:Int) < (n2:Int))=False:=by simp;omega
    clear lO nC;go_wp2_with fail;have cj:=(q4f xD.out).1;have Ek:Hid (∀ y∈KK,y.s.length<=64/\(∀ r∈y.s,r.g=1\/r.g = -1)/\(1 < y.dim->0 < y.s.length)):=fun y hy=>q1l (cj y hy).2
    have DT:chk (l.map Ce.cl)=(k9 (qx m) KK).getD (0,0):=by rw[BC.out,xD.out]
    have Ak:=lhd DT;clear cj DT fE hB;obtain⟨w4,uB⟩ : ∃ w4,w4=wr:=⟨_,rfl⟩
    subst uB;go_loopw [47] (fun i wr=>∃ k:Nat,i = .int .i64 k/\k<=n2/\Hid (k9 (qx m) KK=k9 (qx m) (KK.drop k))/\Below w2.heap.size w2 wr) (fun i _=>n2 - (vI i).toNat)
    case atStart=>exact⟨0,rfl,gp _,(show Hid _ from rfl),Kz.out⟩
    case round =>
     obtain⟨k,rfl,hk,HK,hB⟩:=hrel;by_cases hlt:k < n2
     ·obtain⟨x,hx⟩ : ∃ x,mm[k]? = some x:=⟨_,g8 (by rw[HN.out];exact hlt)⟩
      obtain⟨h2,h3,h4,h5,h6⟩:=HC.out.1.open;obtain⟨ad,rfl⟩ : ∃ ad,a2=some ad:=by
       cases a2 with
       | none=>have:=h5 rfl;omega
       | some ad=>exact⟨ad,rfl⟩
      obtain⟨e0,e1,e2⟩:=zh mm k x hx;have d0:wr.cell? (ad.add (k*3))=some (.int .i64 x.id):=Cx.q8 hB (h6 ad rfl _ _ e0);have d1:wr.cell? ⟨(ad.add (k*3)).block,(ad.add (k*3)).off+1,none⟩=some (.int .i64 x.dim):=by rw[qi _ _ _ (by omega)];exact Cx.q8 hB (h6 ad rfl _ _ e1)
      have d2:wr.cell? ⟨(ad.add (k*3)).block,(ad.add (k*3)).off+2,none⟩=some (.slice x.a x.n x.c):=by rw[qi _ _ _ (by omega)];exact Cx.q8 hB (h6 ad rfl _ _ e2)
      have oI:=gh hx;have hKk:KK[k]? = some x.cl:=by rw[<-HM.out,List.getElem?_map,hx];rfl
      have aS:k9 (qx m) (KK.drop k)=if 1 < x.dim/\xv (qx m) x.cl≠0 then some (x.id,xv (qx m) x.cl) else k9 (qx m) (KK.drop (k+1)):=qft (T:=qx m) hKk
      have aK:Below wr.heap.size wr (wr.alloc (.cells #[.int .i64 x.id,.int .i64 x.dim,.slice x.a x.n x.c] 75)):=(Below.refl _ wr).alloc (nlr _) _;have HX:=lhd (aiq oI (aiq aS (aiq aK (aiq hB (gh hKk)))));clear h2 h3 h4 h5 h6 e0 e1 e2 hx oI hKk aS aK hB;by_cases hd:1 < x.dim
      ·have HD:=lhd hd;go_wp2_with fail;obtain⟨V,hV⟩ : ∃ V:World,V=wr.alloc (.cells #[.int .i64 x.id,.int .i64 x.dim,.slice x.a x.n x.c] 75):=⟨_,rfl⟩
       have v0:V.cell? ⟨wr.heap.size,0,none⟩=some (.int .i64 x.id):=by rw[hV];exact qd wr #[.int .i64 x.id,.int .i64 x.dim,.slice x.a x.n x.c] 75 (0,0) 0
       have ik:Below w2.heap.size w2 V:=HX.out.2.2.2.1.trans (by rw[hV];exact HX.out.2.2.1.mono HX.out.2.2.2.1.size);rw[<-hV];have HV:=lhd ik;have cr:=Ek.out x.cl HX.out.2.2.2.2;have af:=qip T B nT m x V (Cx.q8 ik yO.out.1) (yO.out.2.1.q8 ik) ((HC.out.2 x HX.out.1).q8 ik) (fun y hy=>(yO.out.2.2 y hy).q8 ik)
        ⟨cr.1,fun r hr=>⟨((HI.out x HX.out.1).2.2 r hr).1,cr.2.1 r hr⟩⟩ (cr.2.2 hd) (fun c y hy=>⟨(Ek.out y (LN.out c y hy).1).1,fun r hr=>⟨(LN.out c y hy).2 r hr,(Ek.out y (LN.out c y hy).1).2.1 r hr⟩⟩)
       clear hV ik cr;refine af.mono ?_;rintro e w3 ⟨rfl,aA⟩;have VW:=Cx.q8 aA v0;have eP:=lhd (HV.out.trans (aA.mono HV.out.size));clear af v0 aA;obtain⟨F,hF⟩ : ∃ F,F=xv (qx m) x.cl:=⟨_,rfl⟩
       rw[<-hF];have HF:=lhd hF;by_cases xC:F=0
       ·subst xC;have iZ:k9 (qx m) KK=k9 (qx m) (KK.drop (k+1)):=by
         rw[HK.out,HX.out.2.1,if_neg (fun h=>h.2 HF.out.symm)]
        have E0:=lhd iZ;clear hF iZ;go_wp2_with fail;go_roundw
        case measure=>simp[vI];omega
        case rel=>exact⟨k+1,qh (by omega),by omega,E0,eP.out⟩
       ·have E4:(F != 0)=true:=by simpa using xC
        have hr:chk (l.map Ce.cl)=(x.id,F):=by rw[Ak.out,HK.out,HX.out.2.1,if_pos ⟨HD.out,by rw[<-HF.out];exact xC⟩,<-hF];rfl
        have HR:=lhd hr;clear hr hF;go_wp2_with fail;go_ret2;exact⟨by rw[HR.out];rfl,bR.out.trans (eP.out.mono bR.out.size)⟩
      ·have iZ:k9 (qx m) KK=k9 (qx m) (KK.drop (k+1)):=by
        rw[HK.out,HX.out.2.1,if_neg (fun h=>hd h.1)]
       have E0:=lhd iZ;clear iZ;go_wp2_with fail;go_roundw
       case measure=>simp[vI];omega
       case rel=>exact⟨k+1,qh (by omega),by omega,E0,HX.out.2.2.2.1.trans (HX.out.2.2.1.mono HX.out.2.2.2.1.size)⟩
     ·have hr:chk (l.map Ce.cl)=(0,0):=by
       rw[Ak.out,HK.out,List.drop_eq_nil_of_le (by rw[<-HM.out,gn,HN.out];omega)];rfl
      have HR:=lhd hr;have VX:=lhd hB;clear hr;go_wp2_with fail;go_ret2;exact⟨by rw[HR.out];rfl,bR.out.trans (VX.out.mono bR.out.size)⟩
end Go.Proofs.YtlhicnfeajejhaaGreatDoor
