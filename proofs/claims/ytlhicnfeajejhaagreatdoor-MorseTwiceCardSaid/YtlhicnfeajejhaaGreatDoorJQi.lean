/- Two entries put into two maps of ints, whatever the order of their halves. Conditions: none. morse.open: the error of a complex or of a matching, .. -/
import Derived.Test.YtlhicnfeajejhaaGreatDoorJQf
import Derived.Test.YtlhicnfeajejhaaGreatDoorJQg
set_option maxRecDepth 1000000
set_option maxHeartbeats 16000000
namespace Go.Proofs.YtlhicnfeajejhaaGreatDoor
open Go.Cx Go.RowKit
theorem MpI.entry {w:World} {b n:Nat} {h:Int->Int} (m:MpI w b n h) {c:Int} (hc:I64 c) (hn:n < maxLen) :
  ∃ (v0:Value) (st:Nat) (w1:World),(Instr.mapEntry 122 (.map (some b)) (.int .i64 c)).run Tryz.prog w = .ok (.tuple #[v0,goInt st]) w1/\w.grownBy w1 (some b) ∧
   ∀ (w2:World) (v:Int),w2.heap[b]? = w1.heap[b]?->∃ w3,(Instr.entryStore 122 (.map (some b)) (goInt st) (.int .i64 v)).run Tryz.prog w2 = .ok () w3/\MpI w3 b (n+1) (pu h c v)/\w2.grownBy w3 (some b):=by
 obtain⟨g,h1,h2⟩:=m;obtain⟨v0,st,w1,e1,e2,e3⟩:=h1.entry Tryz.underlying3 Tryz.underlying122 q40 hn (yx hc);refine⟨v0,st,w1,e1,e2,fun w2 v hb=>?_⟩;obtain⟨w3,f1,f2,f3⟩:=e3 w2 (.int .i64 v) hb;exact⟨w3,f1,MpI.q6j h2 f2,f3⟩
theorem MpI.kept {w w':World} {b n:Nat} {h:Int->Int} {row:Option Nat} (m:MpI w b n h) (hg:w.grownBy w' row) (hne:some b≠row):MpI w' b n h:=by obtain⟨g,h1,h2⟩:=m;exact⟨g,h1.kept hg hne,h2⟩
def qiv (w w':World) (A B nA nB:Nat) (hA hB:Int->Int) (c d u v:Int):Prop:=MpI w' A (nA+1) (pu hA c u)/\MpI w' B (nB+1) (pu hB d v)/\Gs (HL A B) w w'
theorem _root_.Go.Cx.Gs.ent {A B b:Nat} {w w' w'':World} (h:Gs (HL A B) w w') (g:w'.grownBy w'' (some b)) (hb:b=A\/b=B):Gs (HL A B) w w'':=h.grown g (fun k e=>by cases e;exact .inr hb)
def qbc (w:World) (A B:Nat) (c d u v:Int) (G F:World->Prop):Prop :=
  ∃ (vA:Value) (sA:Nat) (w1:World),(Instr.mapEntry 122 (.map (some A)) (.int .i64 c)).run Tryz.prog w = .ok (.tuple #[vA,.int .i64 sA]) w1/\G w1 ∧
   (∃ (w3:World) (vB:Value) (sB:Nat) (w4 w5:World),(Instr.entryStore 122 (.map (some A)) (.int .i64 sA) (.int .i64 u)).run Tryz.prog w1 = .ok () w3/\G w3 ∧
    (Instr.mapEntry 122 (.map (some B)) (.int .i64 d)).run Tryz.prog w3 = .ok (.tuple #[vB,.int .i64 sB]) w4/\G w4 ∧
    (Instr.entryStore 122 (.map (some B)) (.int .i64 sB) (.int .i64 v)).run Tryz.prog w4 = .ok () w5/\F w5) ∧
   (∃ (vB:Value) (sB:Nat) (w4 w5 w6 w7 w8:World),(Instr.mapEntry 122 (.map (some B)) (.int .i64 d)).run Tryz.prog w1 = .ok (.tuple #[vB,.int .i64 sB]) w4/\G w4 ∧
    (Instr.entryStore 122 (.map (some A)) (.int .i64 sA) (.int .i64 u)).run Tryz.prog w4 = .ok () w5/\G w5 ∧
    (Instr.entryStore 122 (.map (some B)) (.int .i64 sB) (.int .i64 v)).run Tryz.prog w5 = .ok () w6/\F w6 ∧
    (Instr.entryStore 122 (.map (some B)) (.int .i64 sB) (.int .i64 v)).run Tryz.prog w4 = .ok () w7/\G w7 ∧
    (Instr.entryStore 122 (.map (some A)) (.int .i64 sA) (.int .i64 u)).run Tryz.prog w7 = .ok () w8/\F w8)
theorem qbc.mono {w:World} {A B:Nat} {c d u v:Int} {G F G' F':World->Prop} (h:qbc w A B c d u v G F) (hG:∀ U,G U->G' U) (hF:∀ U,F U->F' U):qbc w A B c d u v G' F':=by
 obtain⟨vA,sA,w1,a1,a2,⟨w3,vB,sB,w4,w5,b1,b2,b3,b4,b5,b6⟩,vC,sC,x4,x5,x6,x7,x8,c1,c2,c3,c4,c5,c6,c7,c8,c9,c10⟩:=h;exact⟨vA,sA,w1,a1,hG _ a2,⟨w3,vB,sB,w4,w5,b1,hG _ b2,b3,hG _ b4,b5,hF _ b6⟩,vC,sC,x4,x5,x6,x7,x8,c1,hG _ c2,c3,hG _ c4,c5,hF _ c6,c7,hG _ c8,c9,hF _ c10⟩
theorem qbd {w:World} {A B nA nB:Nat} {hA hB:Int->Int} (mA:MpI w A nA hA) (mB:MpI w B nB hB) (hne:A≠B) {c d:Int} (u v:Int) (hc:I64 c) (hd:I64 d) (lA:nA < maxLen) (lB:nB < maxLen) :
  qbc w A B c d u v (Gs (HL A B) w) (fun U=>qiv w U A B nA nB hA hB c d u v):=by
 obtain⟨vA,sA,w1,a1,a2,a3⟩:=mA.entry hc lA;have sA':A < w.heap.size:=mA.lt;have sB':B < w.heap.size:=mB.lt;have g1:Gs (HL A B) w w1:=(Gs.refl _ w).ent a2 (.inl rfl);have mB1:MpI w1 B nB hB:=mB.kept a2 (fun e=>hne (osi e).symm);have q1n:∀ {x y:World},x.grownBy y (some A)->B < x.heap.size->y.heap[B]? = x.heap[B]?:=fun g hb=>g.block B hb (fun e=>hne (osi e).symm)
 have keepA:∀ {x y:World},x.grownBy y (some B)->A < x.heap.size->y.heap[A]? = x.heap[A]?:=fun g ha=>g.block A ha (fun e=>hne (osi e))
 refine⟨vA,sA,w1,a1,g1,?_,?_⟩
 ·obtain⟨w3,b1,b2,b3⟩:=a3 w1 u rfl;have mB3:MpI w3 B nB hB:=mB1.kept b3 (fun e=>hne (osi e).symm);have g3:=g1.ent b3 (.inl rfl);obtain⟨vB,sB,w4,c1,c2,c3⟩:=mB3.entry hd lB;have g4:=g3.ent c2 (.inr rfl);obtain⟨w5,d1,d2,d3⟩:=c3 w4 v rfl;exact⟨w3,vB,sB,w4,w5,b1,g3,c1,g4,d1,(b2.kept c2 (fun e=>hne (osi e))).kept d3 (fun e=>hne (osi e)),d2,g4.ent d3 (.inr rfl)⟩
 ·obtain⟨vB,sB,w4,c1,c2,c3⟩:=mB1.entry hd lB;have g4:=g1.ent c2 (.inr rfl);have s1:=a2.size;have s4:=c2.size;obtain⟨w5,d1,d2,d3⟩:=a3 w4 u (keepA c2 (by omega));have g5:=g4.ent d3 (.inl rfl);have s5:=d3.size;obtain⟨w6,e1,e2,e3⟩:=c3 w5 v (q1n d3 (by omega));obtain⟨w7,f1,f2,f3⟩:=c3 w4 v rfl;have g7:=g4.ent f3 (.inr rfl);obtain⟨w8,h1,h2,h3⟩:=a3 w7 u ((keepA f3 (by omega)).trans (keepA c2 (by omega)));exact⟨vB,sB,w4,w5,w6,w7,w8,c1,g4,d1,g5,e1,⟨d2.kept e3 (fun e=>hne (osi e)),e2,g5.ent e3 (.inr rfl)⟩,f1,g7,h1,h2,f2.kept h3 (fun e=>hne (osi e).symm),g7.ent h3 (.inl rfl)⟩
theorem qeg {w:World} {A B nA nB:Nat} {hA hB:Int->Int} (mA:MpI w A nA hA) (mB:MpI w B nB hB) (hne:A≠B) {c d:Int} (u v:Int) (hc:I64 c) (hd:I64 d) (lA:nA < maxLen) (lB:nB < maxLen) :
  qbc w A B c d u v (Gs (HL A B) w) (fun U=>qiv w U A B nA nB hA hB c d u v)/\qbc w B A d c v u (Gs (HL A B) w) (fun U=>qiv w U A B nA nB hA hB c d u v) :=
 ⟨qbd mA mB hne u v hc hd lA lB,(qbd mB mA (fun e=>hne e.symm) v u hd hc lB lA).mono (fun _ h=>h.mono fun _ _ hb=>hb.symm) fun _ h=>⟨h.2.1,h.1,h.2.2.mono fun _ _ hb=>hb.symm⟩⟩
theorem qfw {mm l:List Ce} (hmm:mm.map Ce.cl=canon (l.map Ce.cl)) (hok:COk l):COk mm:=fun x hx=>by
 have hI:=q6m hmm hok x hx;refine⟨⟨hI.1,hI.2.1⟩,?_,hI.2.2⟩;have h1:x.cl∈canon (l.map Ce.cl):=by rw[<-hmm];exact List.mem_map_of_mem hx
 unfold canon at h1;obtain⟨y,hy,e⟩:=List.mem_map.1 h1;obtain⟨z,hz,rfl⟩:=List.mem_map.1 ((q2m _ _).1 hy);have e3:stb Sd.c z.s=x.s:=congrArg Cl.s e;rw[<-e3,qdp];exact(hok z hz).2.1
structure Opn (w w':World) (K:List Cl) (ps:List (Int×Int)) (T:Nat):Prop where
 ex:∃ (BS BH BL:Nat) (nb:Int->Nat) (a:Option Addr) (n c:Nat) (mm:List Ce) (hi lo:Int->Int),Fld w' T BS BH BL nb a n c mm/\mm.map Ce.cl=canon K/\COk mm/\MpI w' BH ps.length hi/\MpI w' BL ps.length lo ∧
  xk (canon K) zz zz ps=some (hi,lo)/\Mtc (canon K) hi lo/\(∀ a,¬ yp (canon K) hi a)/\w.heap.size<=T/\w.heap.size<=BS/\w.heap.size<=BH/\w.heap.size<=BL
theorem q6s (v pvv:Value) (l:List Ce) (ps:List (Int×Int)) (w:World) (h:SlC w v l) (hl:l.length<=1099511627776) (hok:COk l) (hp:Sl w 2 pvv (pv ps)) (hpI:∀ p∈ps,I64 p.1/\I64 p.2) :
  Calls Tryz.prog 98 #[.agg #[v],pvv] w fun e w'=>Below w.heap.size w w' ∧
   ((∃ E:Int,E≠0/\e = .returned (.tuple #[.pointer none,.int .i64 E])/\opE (l.map Ce.cl) ps=E)\/(opE (l.map Ce.cl) ps=0/\chk (l.map Ce.cl)=(0,0)/\∃ T,e = .returned (.tuple #[.pointer (some ⟨T,0,none⟩),.int .i64 0])/\Opn w w' (l.map Ce.cl) ps T)):=by
 obtain⟨a,len,cap,rfl⟩:=qg h.1;obtain⟨a1,len1,cap1,rfl,p1,p2,p3,p4,p5⟩:=hp;unfold maxLen at p2;rw[yq] at p3;have hpl:ps.length=len1:=by omega
 have HA:=lhd (aiq h (aiq hl (aiq hok hpI)));have HP:=lhd (aiq hpl (aiq p4 p5));clear h hl hok hpI p3 p4 p5 hpl;go_enter Tryz.func98,Tryz.ntmps98;go_wp2_with fail;obtain⟨W,hW⟩ : ∃ W:World,W=w.alloc (.cells #[.slice a len cap] 26):=⟨_,rfl⟩
 rw[<-hW];have hBW:Below w.heap.size w W:=by rw[hW];exact(Below.refl _ w).alloc (nlr _) _
 have kb:W.cell? ⟨w.heap.size,0,none⟩=some (.slice a len cap):=by rw[hW];exact qd w #[.slice a len cap] 26 (0,0) 0
 clear hW;obtain⟨ce,hce⟩ : ∃ ce,ce=(chk (l.map Ce.cl)).2:=⟨_,rfl⟩
 refine(qlh _ l W (HA.out.1.q8 hBW) HA.out.2.1 HA.out.2.2.1).mono ?_;rintro e w1 ⟨rfl,hB1⟩;rw[<-hce];have kb1:=Cx.q8 hB1 kb;have hBw1:Below w.heap.size w w1:=hBW.trans (hB1.mono hBW.size);have HB1:=lhd hBw1;clear kb hBw1 hB1 hBW;by_cases hc0:ce=0
 case neg =>
  have hcb:(ce != 0)=true:=by simpa using hc0
  have HC:=lhd (aiq hce hc0);clear hce hc0;go_wp2_with fail;go_ret2;exact⟨HB1.out,.inl ⟨ce,HC.out.2,rfl,by unfold opE;rw[<-HC.out.1,if_neg HC.out.2]⟩⟩
 have hchk:chk (l.map Ce.cl)=(0,0):=qir (hce.symm.trans hc0);have HK:=lhd hchk;clear hce hchk;subst hc0;go_wp2_with fail;refine(q8l _ l w1 (HA.out.1.q8 HB1.out) HA.out.2.1 (fun x hx=>(HA.out.2.2.1 x hx).2.1)).mono ?_;rintro e w2 ⟨r,mm,rfl,hmm,hrow,hsd,hB2⟩;have hcs:=Sl.qc hrow;obtain⟨a2,n2,c2,rfl⟩:=qg hcs;have hSlC:SlC w2 (.slice a2 n2 c2) mm:=⟨hcs,fun x hx=>Sl.qc (hsd x hx)⟩
 have HB2:=lhd (HB1.out.trans (hB2.mono HB1.out.size));have HS:=lhd (aiq hSlC hmm);have hG:Cx.Good (canon (l.map Ce.cl)):=q0d HK.out;have HG:=lhd hG;clear hrow hsd hB2 hcs hSlC hmm kb1 hG;go_wp2_with fail;have hcok:=qfw HS.out.2 HA.out.2.2.1;have hasc:Asc (mm.map Ce.cl):=by rw[HS.out.2];exact HG.out.asc
 refine(qp9 a2 n2 c2 mm w2 HS.out.1 hcok hasc).mono ?_;rintro e w3 ⟨T,BS,BH,BL,nb,rfl,hF,hH,hLo,l1,l2,l3,l4,hB3⟩;have HF:=lhd (aiq hF (aiq hcok hasc));have HM:=lhd (aiq hH hLo);have hB3w:=HB2.out.trans (hB3.mono HB2.out.size);have HB3:=lhd hB3w;have hord:w.heap.size<=T/\w.heap.size<=BS/\w.heap.size<=BH/\w.heap.size<=BL:=by have:=HB2.out.size;omega
 have HO:=lhd hord;have hneBH:BH≠BL:=hF.ne.2.2.2.2;have hTB:T≠BH/\T≠BL:=⟨hF.ne.1,hF.ne.2.1⟩
 have hmm:mm.map Ce.cl=canon (l.map Ce.cl):=HS.out.2;obtain⟨K,hK⟩ : ∃ K,K=canon (l.map Ce.cl):=⟨_,rfl⟩
 rw[<-hK] at HG hmm;have HKK:=lhd (aiq hK hmm);have HNE:=lhd (aiq hneBH hTB);clear hF hH hLo hcok hasc hB3 hB3w l1 l2 l3 l4 hord hK hmm HS hTB hneBH;go_wp2_with fail;go_loopw [26] (fun i wr=>∃ k:Nat,i = .int .i64 k/\k<=len1/\Hid (∃ hi lo,xk K zz zz (ps.take k)=some (hi,lo)/\Mtc K hi lo/\MpI wr BH k hi/\MpI wr BL k lo/\Gs (HL BH BL) w3 wr)) (fun i _=>len1 - (vI i).toNat)
 case atStart=>exact⟨0,rfl,Nat.zero_le _,zz,zz,by rw[List.take_zero,xk],q6p K,HM.out.1,HM.out.2,Gs.refl _ _⟩
 case round =>
  obtain⟨k,rfl,hk,HR⟩:=hrel;by_cases hlt:k < len1
  ·obtain⟨ad,rfl⟩ : ∃ ad,a1=some ad:=by
    cases a1 with
    | none=>have:=HP.out.2.1 rfl;omega
    | some ad=>exact⟨ad,rfl⟩
   obtain⟨⟨x,y⟩,ht⟩ : ∃ t,ps[k]? = some t:=⟨_,List.getElem?_eq_getElem (by rw[HP.out.1];exact hlt)⟩
   obtain⟨e0,e1⟩:=kv ps k _ ht;obtain⟨xI,yI⟩:=HA.out.2.2.2 _ (List.mem_of_getElem? ht);obtain⟨hi,lo,hput,hmt,mH,mL,hGs⟩:=HR.out;have hBr:Below w.heap.size w wr:=HB3.out.trans (hGs.below (B:=w.heap.size) HB3.out.size (fun b hb=>by have:=HO.out;rcases hb with rfl | rfl <;> omega));have d0:wr.cell? (ad.add (k*2))=some (.int .i64 x):=Cx.q8 hBr (HP.out.2.2 ad rfl _ _ e0);have d1:wr.cell? ⟨(ad.add (k*2)).block,(ad.add (k*2)).off+1,none⟩=some (.int .i64 y):=by rw[qi _ _ _ (by omega)];exact Cx.q8 hBr (HP.out.2.2 ad rfl _ _ e1)
   have hFr:=HF.out.1.gs hGs;have HT:=lhd (aiq ht (aiq xI yI));have HR2:=lhd (aiq hput (aiq hmt (aiq mH (aiq mL (aiq hGs hBr)))));have HFr:=lhd hFr;clear e0 e1 ht xI yI hput hmt mH mL hGs hBr hFr HR;go_wp2_with fail;obtain⟨V,hV⟩ : ∃ V:World,V=wr.alloc (.cells #[.int .i64 x,.int .i64 y] 50):=⟨_,rfl⟩
   rw[<-hV];have hBV:Below wr.heap.size wr V:=by rw[hV];exact(Below.refl _ wr).alloc (nlr _) _
   have z0:V.cell? ⟨wr.heap.size,0,none⟩=some (.int .i64 x):=by rw[hV];exact qd wr _ _ (0,0) 0
   have z1:V.cell? ⟨wr.heap.size,1,none⟩=some (.int .i64 y):=by rw[hV];exact qd wr _ _ (0,0) 1
   clear hV d0 d1;obtain⟨hput,hmt,mH,mL,hGs,hBr⟩:=HR2.out;obtain⟨ht,xI,yI⟩:=HT.out;have hFV:=HFr.out.q8 hBV;have mHV:=mH.q8 hBV;have mLV:=mL.q8 hBV;have hfits:=qih hFV HF.out.2.2 mHV mLV x y xI yI;rw[HKK.out.2] at hfits;have hlen1:k < maxLen:=by unfold maxLen;omega
   have hbox:wr.heap.size < V.heap.size:=World.block_lt_of_cell? V _ z0;have hHLr:BH < wr.heap.size/\BL < wr.heap.size:=⟨mH.lt,mL.lt⟩
   have t2:=hFV.t2;have t3:=hFV.t3;have HFITS:=lhd hfits;have HV:=lhd (aiq hBV (aiq mHV (aiq mLV (aiq hlen1 (aiq hbox hHLr)))));clear hput hmt mH mL hGs hBr ht xI yI hFV mHV mLV hfits hBV hlen1 hbox hHLr;refine HFITS.out.mono ?_;rintro e w4 ⟨rfl,hw4⟩;have hw4:=hw4.symm;subst hw4;by_cases hf:kc K hi lo x y=true
   case neg =>
    have hf:kc K hi lo x y=false:=by simpa using hf
    have HFB:=lhd hf;rw[hf];clear hf;go_wp2_with fail;go_ret2;obtain⟨hput,hmt,mH,mL,hGs,hBr⟩:=HR2.out;refine⟨hBr.trans (HV.out.1.mono hBr.size),.inl ⟨42,by decide,rfl,?_⟩⟩;have h1:xk K zz zz (ps.take k++[(x,y)])=none:=by
     rw[q14,hput];show (if kc K hi lo x y then _ else none)=none;rw[HFB.out];rfl
    have h2:=q3i (ps.take k++[(x,y)]) (ps.drop (k+1)) h1;rw[show ps.take k++[(x,y)]++ps.drop (k+1)=ps by
     conv=>rhs;rw[<-List.take_append_drop (k+1) ps,List.take_add_one,HT.out.1]
     rfl] at h2
    unfold opE;rw[HK.out,if_pos rfl,<-HKK.out.1];unfold j8;rw[show (fun _=>0:Int->Int)=zz from rfl,h2]
   have HFB:=lhd hf;rw[hf];clear hf;go_upto_region 10 with fail;obtain⟨hBV,mHV,mLV,hlen1,hbox,hHLr⟩:=HV.out;have hkeepV:∀ U,Gs (HL BH BL) V.drew U->U.cell? ⟨T,2,none⟩=some (.map (some BH))/\U.cell? ⟨T,3,none⟩=some (.map (some BL))/\U.cell? ⟨wr.heap.size,0,none⟩=some (.int .i64 x)/\U.cell? ⟨wr.heap.size,1,none⟩=some (.int .i64 y):=fun U hU=>by
    have hT:¬ HL BH BL T:=fun e=>e.elim HNE.out.2.1 HNE.out.2.2
    have hb:¬ HL BH BL wr.heap.size:=fun e=>e.elim (fun e=>by omega) (fun e=>by omega)
    exact⟨hU.cell hT t2,hU.cell hT t3,hU.cell hb z0,hU.cell hb z1⟩
   have KV:=lhd hkeepV;have hfin:∀ U,qiv V.drew U BH BL k k hi lo x y y x->Hid (∃ hi lo,xk K zz zz (ps.take (k+1))=some (hi,lo)/\Mtc K hi lo/\MpI U BH (k+1) hi/\MpI U BL (k+1) lo/\Gs (HL BH BL) w3 U):=fun U hU=>by
    obtain⟨hput,hmt,mH,mL,hGs,hBr⟩:=HR2.out;refine⟨pu hi x y,pu lo y x,?_,q9d HG.out hmt HFB.out,hU.1,hU.2.1,((hGs.trans (Gs.xh hBV)).drew).trans hU.2.2⟩;rw[List.take_add_one,HT.out.1];show xk K zz zz (ps.take k++[(x,y)])=_;rw[q14,hput];show (if kc K hi lo x y then _ else none)=_;rw[HFB.out];rfl
   have FN:=lhd hfin;obtain⟨hA,hB⟩:=qeg (w:=V.drew) (mHV.q8 (qb (Below.refl _ V) 1)) (mLV.q8 (qb (Below.refl _ V) 1)) HNE.out.1 y x HT.out.2.1 HT.out.2.2 (by omega) (by omega);unfold qbc at hA hB;obtain⟨vA,sA,wA1,rA1,gA1,⟨wA3,vA2,sA2,wA4,wA5,rA3,gA3,rA4,gA4,rA5,fA5⟩,vA6,sA6,wA6,wA7,wA8,wA9,wA10,rA6,gA6,rA7,gA7,rA8,fA8,rA9,gA9,rA10,fA10⟩:=hA;obtain⟨vB,sB,wB1,rB1,gB1,⟨wB3,vB2,sB2,wB4,wB5,rB3,gB3,rB4,gB4,rB5,fB5⟩,vB6,sB6,wB6,wB7,wB8,wB9,wB10,rB6,gB6,rB7,gB7,rB8,fB8,rB9,gB9,rB10,fB10⟩:=hB;have HFIN:=lhd (aiq fA5 (aiq fA8 (aiq fA10 (aiq fB5 (aiq fB8 fB10)))));clear hkeepV hfin hBV mHV mLV hlen1 hbox hHLr fA5 fA8 fA10 fB5 fB8 fB10
   go_region_held (fun w'=>w'.cell? ⟨T,2,none⟩=some (.map (some BH))/\w'.cell? ⟨T,3,none⟩=some (.map (some BL))/\w'.cell? ⟨wr.heap.size,0,none⟩=some (.int .i64 x)/\w'.cell? ⟨wr.heap.size,1,none⟩=some (.int .i64 y)) (first | exact KV.out _ (Gs.refl _ _) | exact KV.out _ gA1 | exact KV.out _ gA3 | exact KV.out _ gA4 | exact KV.out _ gA6 | exact KV.out _ gA7 | exact KV.out _ gA9 | exact KV.out _ gB1 | exact KV.out _ gB3 | exact KV.out _ gB4 | exact KV.out _ gB6 | exact KV.out _ gB7 | exact KV.out _ gB9 | exact KV.out _ HFIN.out.1.2.2 | exact KV.out _ HFIN.out.2.1.2.2 | exact KV.out _ HFIN.out.2.2.1.2.2 | exact KV.out _ HFIN.out.2.2.2.1.2.2 | exact KV.out _ HFIN.out.2.2.2.2.1.2.2 | exact KV.out _ HFIN.out.2.2.2.2.2.2.2 | fail) (fail)
   all_goals
    go_wp2_with fail;go_roundw
    case measure=>simp[vI];omega
    case rel=>exact⟨k+1,qh (by omega),by omega,by first | exact FN.out _ HFIN.out.1 | exact FN.out _ HFIN.out.2.1 | exact FN.out _ HFIN.out.2.2.1 | exact FN.out _ HFIN.out.2.2.2.1 | exact FN.out _ HFIN.out.2.2.2.2.1 | exact FN.out _ HFIN.out.2.2.2.2.2⟩
  ·have hke:k=len1:=by omega
   subst hke;obtain⟨wo,hwo⟩ : ∃ wo,wo=wr:=⟨_,rfl⟩
   subst hwo;obtain⟨hi,lo,hput,hmt,mH,mL,hGs⟩:=HR.out;rw[List.take_of_length_le (by rw[HP.out.1];exact nlr _)] at hput;have hBr:Below w.heap.size w wo:=HB3.out.trans (hGs.below (B:=w.heap.size) HB3.out.size (fun b hb=>by have:=HO.out;rcases hb with rfl | rfl <;> omega));have hFr:=HF.out.1.gs hGs;have HR2:=lhd (aiq hput (aiq hmt (aiq mH (aiq mL (aiq hBr hFr)))));clear hput hmt mH mL hGs hBr hFr HR;have hmatE:((∃ p∈ps,yp K hi p.1)->j8 K ps=43)/\((¬ ∃ p∈ps,yp K hi p.1)->j8 K ps=0):=by
    unfold j8;rw[show (fun _=>0:Int->Int)=zz from rfl,HR2.out.1];exact⟨fun h=>if_pos h,fun h=>if_neg h⟩
   have hop:opE (l.map Ce.cl) ps=j8 K ps:=by
    unfold opE;rw[HK.out,if_pos rfl,<-HKK.out.1]
   have HE:=lhd (aiq hmatE hop);clear hmatE hop;go_wp2_with fail;go_loopw [60] (fun i wr=>∃ j:Nat,i = .int .i64 j/\j<=k/\Hid (∀ p∈ps.take j,¬ yp K hi p.1)/\Below wo.heap.size wo wr) (fun i _=>k - (vI i).toNat)
   case atStart=>exact⟨0,rfl,Nat.zero_le _,(show Hid _ from fun p hp=>by rw[List.take_zero] at hp;cases hp),Below.refl _ _⟩
   case round =>
    obtain⟨j,rfl,hj,HN,hBj⟩:=hrel;by_cases hjk:j < k
    ·obtain⟨ad,rfl⟩ : ∃ ad,a1=some ad:=by
      cases a1 with
      | none=>have:=HP.out.2.1 rfl;omega
      | some ad=>exact⟨ad,rfl⟩
     obtain⟨⟨x,y⟩,ht⟩ : ∃ t,ps[j]? = some t:=⟨_,List.getElem?_eq_getElem (by rw[HP.out.1];exact hjk)⟩
     obtain⟨e0,e1⟩:=kv ps j _ ht;have hBw:Below w.heap.size w wr:=HR2.out.2.2.2.2.1.trans (hBj.mono HR2.out.2.2.2.2.1.size);have d0:wr.cell? (ad.add (j*2))=some (.int .i64 x):=Cx.q8 hBw (HP.out.2.2 ad rfl _ _ e0);have d1:wr.cell? ⟨(ad.add (j*2)).block,(ad.add (j*2)).off+1,none⟩=some (.int .i64 y):=by rw[qi _ _ _ (by omega)];exact Cx.q8 hBw (HP.out.2.2 ad rfl _ _ e1)
     have HT:=lhd (aiq ht (aiq hBj hBw));clear e0 e1 ht hBj hBw;go_wp2_with fail;obtain⟨V,hV⟩ : ∃ V:World,V=wr.alloc (.cells #[.int .i64 x,.int .i64 y] 50):=⟨_,rfl⟩
     rw[<-hV];have hBV:Below wr.heap.size wr V:=by rw[hV];exact(Below.refl _ wr).alloc (nlr _) _
     clear hV d0 d1;obtain⟨hput,hmt,mH,mL,hBr,hFr⟩:=HR2.out;obtain⟨ht,hBj,hBw⟩:=HT.out;have hBoV:Below wo.heap.size wo V:=hBj.trans (hBV.mono hBj.size);have hmem:=List.mem_of_getElem? ht;obtain⟨hk1,hk2⟩:=(yl HG.out ps zz zz (hi,lo) hput).2 _ hmem;have hk1:hi x=y:=hk1;have hk2:y≠0:=hk2;have hsz:(j6 (mm.map Ce.cl)).length<=1000000000:=by
      rw[HKK.out.2];have h1:=q4r HG.out.few;have h2:=HG.out.len;unfold j6;omega
     have har:=qax (hFr.q8 hBoV) HF.out.2.2 HF.out.2.1 (mH.q8 hBoV) (fun d hd=>by rw[HKK.out.2];exact q92 (hmt.sg d hd)) x (by rw[hk1];exact hk2) (HA.out.2.2.2 _ hmem).1 hsz;rw[HKK.out.2] at har;have HAR:=lhd har;have HV:=lhd hBoV;clear har hput hmt mH mL hBr hFr ht hBj hBw hBV hBoV hmem hk1 hk2 hsz;refine HAR.out.mono ?_;rintro e w5 ⟨q,rfl,hq,hb5⟩;have HQ:=lhd hq;have HB5:=lhd (HV.out.trans (hb5.mono HV.out.size));clear hq hb5;cases q with
     | true =>
      go_wp2_with fail;go_ret2;have hb0:=HR2.out.2.2.2.2.1;refine⟨hb0.trans (HB5.out.mono hb0.size),.inl ⟨43,by decide,rfl,?_⟩⟩;rw[HE.out.2];exact HE.out.1.1 ⟨_,List.mem_of_getElem? HT.out.1,HQ.out.1 trivial⟩
     | false =>
      go_wp2_with fail;go_roundw
      case measure=>simp[vI];omega
      case rel =>
       refine⟨j+1,qh (by omega),by omega,(show Hid _ from fun p hp=>?_),HB5.out⟩;rw[List.take_add_one,HT.out.1] at hp;rcases List.mem_append.1 hp with hp | hp
       ·exact HN.out p hp
       ·have:p=(x,y):=by simpa using hp
        rw[this];exact fun hc=>absurd (HQ.out.2 hc) (by decide)
    ·have hjk:j=k:=by omega
     subst hjk;have HBJ:=lhd hBj;clear hBj;go_wp2_with fail;go_ret2;obtain⟨hput,hmt,mH,mL,hBr,hFr⟩:=HR2.out;have hno:¬ ∃ p∈ps,yp K hi p.1:=fun ⟨p,hp,hc⟩=>by
      refine HN.out p ?_ hc;rw[List.take_of_length_le (by rw[HP.out.1];exact nlr _)];exact hp
     have hz:j8 K ps=0:=HE.out.1.2 hno;refine⟨hBr.trans (HBJ.out.mono hBr.size),.inr ⟨by rw[HE.out.2];exact hz,HK.out,T,rfl,⟨BS,BH,BL,nb,a2,n2,c2,mm,hi,lo,hFr.q8 HBJ.out,HKK.out.2.trans HKK.out.1,HF.out.2.1,by rw[HP.out.1];exact mH.q8 HBJ.out,by rw[HP.out.1];exact mL.q8 HBJ.out,?_,?_,fun a ha=>?_,HO.out.1,HO.out.2.1,HO.out.2.2.1,HO.out.2.2.2⟩⟩⟩
     ·rw[<-HKK.out.1];exact hput
     ·rw[<-HKK.out.1];exact hmt
     ·rw[<-HKK.out.1] at ha;rcases q0e ps zz zz (hi,lo) hput a (q46 HG.out ha) with h1 | ⟨p,hp,rfl⟩
      ·exact absurd rfl h1
      ·exact hno ⟨p,hp,ha⟩
theorem qiw (w:World) (r:Option Nat):(Go.binOp .eql 122 (.map r) (.map none)).run Tryz.prog w = .ok (.bool r.isNone) w:=run_eql_map_nil w _ _ _ r Tryz.underlying122
attribute [local go_sem ↓] Go.wp_at_zero Go.wp_at_succ
theorem qix (t:Tm) (bk T BH n1:Nat) (hi:Int->Int) (w:World) (hc:w.cell? ⟨bk,0,none⟩=some (.pointer (some ⟨T,0,none⟩))) (q2:w.cell? ⟨T,2,none⟩=some (.map (some BH))) (hh:MpI w BH n1 hi) (ht:I64 t.c) :
  Calls Tryz.prog 162 #[Tm.v t,.pointer (some ⟨bk,0,none⟩)] w fun e w'=>e = .returned (.bool (hi t.c != 0))/\Below w.heap.size w w':=by
 obtain⟨W,hW⟩ : ∃ W,W=w.alloc (.cells #[.int .i64 t.c,.bool t.n,.string t.m] 71):=⟨_,rfl⟩
 have hB:Below w.heap.size w W:=by rw[hW];exact(Below.refl _ w).alloc (nlr _) _
 have h1:=Cx.q8 hB hc;have h2:=Cx.q8 hB q2;have h3:(Instr.lookup 122 (.map (some BH)) (.int .i64 t.c) false).run Tryz.prog W.drew = .ok (.int .i64 (hi t.c)) W.drew:=(hh.q8 (qb hB 1)).look ht;have h4:W.cell? ⟨w.heap.size,0,none⟩=some (.int .i64 t.c):=by rw[hW];exact qd w _ _ (0,0) 0
 have HB:=lhd hB;clear hc q2 hh ht hB;unfold Tm.v;go_enter Tryz.func162,Tryz.ntmps162;go_upto_region 1 with fail;rw[<-hW];clear hW
 go_still (by kernel_rfl)
 go_wp2;go_ret;exact⟨rfl,qb HB.out 1⟩
theorem qlu (t:Tm) (bk T BS:Nat) (nb:Int->Nat) (K:List Cl) (w:World) (hc:w.cell? ⟨bk,0,none⟩=some (.pointer (some ⟨T,0,none⟩))) (q1:w.cell? ⟨T,1,none⟩=some (.map (some BS))) (hh:Sds w BS nb K) (ht:I64 t.c) :
  Calls Tryz.prog 164 #[Tm.v t,.pointer (some ⟨bk,0,none⟩)] w fun e w'=>e = .returned (.bool (!jv K t.c))/\Below w.heap.size w w':=by
 obtain⟨W,hW⟩ : ∃ W,W=w.alloc (.cells #[.int .i64 t.c,.bool t.n,.string t.m] 71):=⟨_,rfl⟩
 have hB:Below w.heap.size w W:=by rw[hW];exact(Below.refl _ w).alloc (nlr _) _
 have h1:=Cx.q8 hB hc;have h2:=Cx.q8 hB q1;have h3:=q29 W.drew (Sds.q8 hh (qb hB 1)).top ht;have h4:W.cell? ⟨w.heap.size,0,none⟩=some (.int .i64 t.c):=by rw[hW];exact qd w _ _ (0,0) 0
 have HB:=lhd hB;clear hc q1 hh ht hB;unfold Tm.v;have qe:∀ (w:World) (r:Option Nat),(Go.binOp .eql 122 (.map r) (.map none)).run Tryz.prog w = .ok (.bool r.isNone) w:=qiw;obtain⟨q,hq⟩ : ∃ q,q=jv K t.c:=⟨_,rfl⟩
 rw[<-hq] at h3 ⊢;clear hq;cases q with
 | true =>
  rw[if_pos rfl] at h3;go_enter Tryz.func164,Tryz.ntmps164;go_upto_region 1 with fail;rw[<-hW];clear hW
  go_still (by kernel_rfl)
  go_wp2;go_ret;exact⟨rfl,qb HB.out 1⟩
 | false =>
  rw[if_neg (by simp)] at h3;go_enter Tryz.func164,Tryz.ntmps164;go_upto_region 1 with fail;rw[<-hW];clear hW
  go_still (by kernel_rfl)
  go_wp2;go_ret;exact⟨rfl,qb HB.out 1⟩
theorem qlv (t:Tm) (bk T BH BL n1 n2:Nat) (hi lo:Int->Int) (w:World) (hc:w.cell? ⟨bk,0,none⟩=some (.pointer (some ⟨T,0,none⟩))) (q2:w.cell? ⟨T,2,none⟩=some (.map (some BH))) (q3:w.cell? ⟨T,3,none⟩=some (.map (some BL))) (hh:MpI w BH n1 hi) (hl:MpI w BL n2 lo) (ht:I64 t.c) :
  Calls Tryz.prog 165 #[Tm.v t,.pointer (some ⟨bk,0,none⟩)] w fun e w'=>e = .returned (.bool (pdB hi lo t.c))/\Below w.heap.size w w':=by
 have hB:Below w.heap.size w (w.alloc (.cells #[.int .i64 t.c,.bool t.n,.string t.m] 71)):=(Below.refl _ w).alloc (nlr _) _;have h1:=Cx.q8 hB hc;have hcall:=q2a T BH BL n1 n2 hi lo t.c _ (Cx.q8 hB q2) (Cx.q8 hB q3) (hh.q8 hB) (hl.q8 hB) ht;have HC:=lhd hcall;have HB:=lhd hB;clear hc q2 q3 hh hl ht hB hcall;unfold Tm.v;go_enter Tryz.func165,Tryz.ntmps165;go_wp2_with fail;refine HC.out.mono ?_;rintro e w2 ⟨rfl,rfl⟩;go_wp2;go_ret;exact⟨rfl,HB.out⟩
end Go.Proofs.YtlhicnfeajejhaaGreatDoor
namespace Go.Cx
theorem qbe {R:Nat->Prop} (h:∃ k,R k):∃ k,R k/\∀ j,R j->k<=j:=by
 obtain⟨k,hk⟩:=h;induction k using Nat.strongRecOn with
 | _ k ih =>
  by_cases h:∃ j,j < k/\R j
  ·obtain⟨j,hj,hr⟩:=h;exact ih j hj hr
  ·refine⟨k,hk,fun j hj=>?_⟩;apply Classical.byContradiction;intro hn;exact h ⟨j,by omega,hj⟩
open Classical in
noncomputable def least (R:Nat->Prop):Nat:=if h:∃ k,R k then (qbe h).choose else 0
theorem q6t {R:Nat->Prop} (h:∃ k,R k):R (least R)/\∀ j,R j->least R<=j:=by
 unfold least;rw[dif_pos h];exact(qbe h).choose_spec
theorem qiy {R R':Nat->Prop} {k:Nat} (h:least R=k+1) (h':R' k):least R' < least R:=by
 have:=(q6t ⟨k,h'⟩).2 k h';omega
theorem qeh {L U:List Int} (h:L.Nodup) (hs:∀ x∈L,x∈U):L.length<=U.length:=by
 induction L generalizing U with
 | nil=>exact Nat.zero_le _
 | cons a L ih =>
  obtain⟨h1,h2⟩:=List.nodup_cons.1 h;have ha:=hs a (by simp);have:=ih (U:=U.erase a) h2 fun x hx=>(List.mem_erase_of_ne (fun e:x=a=>h1 (e ▸ hx))).2 (hs x (by simp[hx]))
  rw[List.length_erase_of_mem ha] at this;have hp:=List.length_pos_of_mem ha;rw[List.length_cons];omega
theorem q6u {K:List Cl} {L:List (Int×Int)} (h:Cn L) (hi:In0 K (co L)):L.length<=K.length:=by
 have h1:(L.map Prod.fst).Nodup:=by
  unfold List.Nodup;rw[List.pairwise_map];exact h.1.imp fun hl e=>by omega
 have:=qeh (U:=K.map Cl.id) h1 fun x hx=>by
  obtain⟨p,hp,rfl⟩:=List.mem_map.1 hx;exact hi p.1 (by rw[zl h.1 hp];exact h.2 p hp)
 simpa using this
end Go.Cx
namespace Go.Proofs.YtlhicnfeajejhaaGreatDoor
open Go.Cx Go.RowKit
theorem q4s {K:List Cl} {mm:List Ce} (hK:mm.map Ce.cl=K) (hOK:COk mm) {d:Int} (h:d∈K.map Cl.id):I64 d:=by
 obtain⟨x,hx,rfl⟩:=List.mem_map.1 h;rw[<-hK] at hx;obtain⟨y,hy,rfl⟩:=List.mem_map.1 hx;exact(hOK y hy).1.1
theorem q9i {K:List Cl} {mm:List Ce} (hK:mm.map Ce.cl=K) (hOK:COk mm) {L:List (Int×Int)} (h:Cn L) (hi:In0 K (co L)) {S:Nat} (hS:∀ d,nb (co L d)<=S):TOk S (ctm L):=LOk.tok fun p hp=>by
 have:=zl h.1 hp;exact⟨q4s hK hOK (hi p.1 (by rw[this];exact h.2 p hp)),by rw[<-this];exact hS p.1⟩
theorem q6v {K:List Cl} (G:Cx.Good K):(z8 K).length<=256000:=by
 have key:∀ M:List Cl,(∀ x∈M,x.s.length<=64)->(z8 M).length<=M.length*64:=fun M=>by
  induction M with
  | nil=>intro _;simp[z8]
  | cons x M ih =>
   intro h;have h1:=h x (by simp);have h2:=ih fun y hy=>h y (by simp[hy])
   unfold z8 at h2 ⊢;rw[List.flatMap_cons,List.length_append,List.length_map,List.length_cons,Nat.succ_mul];omega
 have:=key K G.few;have:=G.len;omega
theorem q87 {K:List Cl} (G:Cx.Good K) (b a:Int):nb (sgn K b a)<=1:=by
 by_cases h:sgn K b a=0
 ·rw[h,q0g];omega
 ·refine q31 _ _ ?_;rcases G.q2v h with e | e <;> rw[e] <;> decide
theorem qod {K:List Cl} (G:Cx.Good K) (c d:Int):nb (bdD K c 1 d)<=1:=by
 rw[G.bdD,Int.one_mul];exact q87 G c d
theorem vg (c x:Int):co [(c,x)]=qw c x:=by
 funext d
 show (if c=d then x else 0)+0=_;unfold qw;by_cases h:d=c
 ·rw[if_pos h,if_pos h.symm,Int.add_zero]
 ·rw[if_neg h,if_neg fun e=>h e.symm,Int.add_zero]
structure Cst (w0:World) (base:Nat) (K:List Cl) (hi:Int->Int) (Wt:Int->Nat) (B:Nat) (f' h':Int->Int) (k:Nat) (va vh:Value) (wr:World):Prop where
 ex:∃ (La Lh:List (Int×Int)),Clr K hi k (co La) (co Lh) f' h'/\Cn La/\Cn Lh/\wr.ownsRow base 71 3 va La.length (tv (ctm La))/\Sl wr 3 vh (tv (ctm Lh))/\In0 K (co La)/\In0 K (co Lh)/\Ph (K.map Cl.id) Wt (co La)+Ph (K.map Cl.id) (fun _=>1) (co Lh)<=B
 below:Below w0.heap.size w0 wr
theorem qlw (U:List Int) (W:Int->Nat):Ph U W zz=0:=by
 unfold Ph zz;induction U with
 | nil=>rfl
 | cons a U ih=>rw[List.map_cons,List.sum_cons,ih];simp
theorem qei {w:World} {T BS BH BL n c n1:Nat} {nbf:Int->Nat} {a:Option Addr} {mm:List Ce} {K:List Cl} {hi lo f' h':Int->Int} (hF:Fld w T BS BH BL nbf a n c mm) (hK:mm.map Ce.cl=K) (hG:Cx.Good K) (hOK:COk mm) (hM:Mtc K hi lo) (mH:MpI w BH n1 hi) {Wt:Int->Nat} (hW:Wgt K hi Wt)
  (base:Nat) (v:Value) (L:List (Int×Int)) (hv:w.ownsRow base 71 3 v L.length (tv (ctm L))) (hb:base<=w.heap.size) (hCn:Cn L) (hIn:In0 K (co L)) (S:Nat) (hS:∀ d,nb (co L d)<=S) (hSb:S<=1000000000) (N:Nat) (hC:Clr K hi N (co L) zz f' h') :
  Calls Tryz.prog 111 #[.pointer (some ⟨T,0,none⟩),v] w fun e w'=>∃ r1 r2 L1 L2,e = .returned (.tuple #[r1,r2])/\w'.ownsRow base 71 3 r1 L1.length (tv (ctm L1))/\Cn L1/\co L1=f'/\Sl w' 3 r2 (tv (ctm L2))/\Cn L2/\co L2=h'/\In0 K f'/\In0 K h'/\(∀ d,nb (f' d)<=S+4003/\nb (h' d)<=S+4003)/\Below w.heap.size w w':=by
 obtain⟨va0,vn0,vc0,rfl⟩:=qg (Sl.qc hv);have hcap:=qoa hW hS (by have:=hG.len;omega);have hlen:=hG.len;obtain⟨B,hBe⟩ : ∃ B,B=Ph (K.map Cl.id) Wt (co L):=⟨_,rfl⟩
 rw[<-hBe] at hcap;have H0:=lhd (aiq hv (aiq hCn (aiq hIn (aiq hC hBe))));have HP:=lhd (aiq hF (aiq hK (aiq hG (aiq hOK (aiq hM (aiq mH (aiq hW (aiq hcap hb))))))));have bound:∀ (La Lh:List (Int×Int)),In0 K (co La)->In0 K (co Lh)->Ph (K.map Cl.id) Wt (co La)+Ph (K.map Cl.id) (fun _=>1) (co Lh)<=B->(∀ d,nb (co La d)<=S+4003)/\∀ d,nb (co Lh d)<=S+4003:=fun La Lh i1 i2 hb=>⟨fun d=>Nat.le_trans (qb9 hW.pos i1 (Nat.le_trans (Nat.le_add_right _ _) hb) hcap d) (by omega),fun d=>Nat.le_trans (qb9 (W:=fun _=>1) (fun _=>by omega) i2 (Nat.le_trans (Nat.le_add_left _ _) hb) hcap d) (by omega)⟩
 have HBD:=lhd bound;clear hv hCn hIn hC hBe hF hK hG hOK hM mH hW hcap hb hS bound hlen;go_enter Tryz.func111,Tryz.ntmps111;go_wp2_with fail;obtain⟨W,hW⟩ : ∃ W:World,W=w.alloc (.cells #[.pointer (some ⟨T,0,none⟩)] 118):=⟨_,rfl⟩
 have hBW:Below w.heap.size w W:=by rw[hW];exact(Below.refl _ w).alloc (nlr _) _
 have kb:W.cell? ⟨w.heap.size,0,none⟩=some (.pointer (some ⟨T,0,none⟩)):=by rw[hW];exact qd w #[.pointer (some ⟨T,0,none⟩)] 118 (0,0) 0
 obtain⟨bk,hbk⟩ : ∃ bk,bk=w.heap.size:=⟨_,rfl⟩
 rw[<-hbk] at kb ⊢;rw[<-hW];have HW:=lhd (aiq hBW (aiq kb hbk));clear hBW kb hW hbk;go_loopw [1,5] (fun va vh wr=>∃ k,Cst W base K hi Wt B f' h' k va vh wr) (fun va vh wr=>least (fun k=>Cst W base K hi Wt B f' h' k va vh wr))
 case atStart =>
  obtain⟨h1,h2,h3,h4,h5⟩:=H0.out;exact⟨N,⟨L,[],h4,h2,Cn.nil,qa h1 HW.out.1,Sl.nil _ _,h3,fun d hd=>absurd rfl hd,by rw[h5];exact Nat.le_of_eq (by rw[show co ([] : List (Int×Int))=zz from rfl,qlw,Nat.add_zero])⟩,Below.refl _ _⟩
 case round =>
  have hst:=(q6t hrel).1;obtain⟨kk,hkk⟩ : ∃ kk,kk=least (fun k=>Cst W base K hi Wt B f' h' k u1 u5 wr):=⟨_,rfl⟩
  rw[<-hkk] at hst;obtain⟨⟨La,Lh,h1,h2,h3,h4,h5,h6,h7,h8⟩,hBr⟩:=hst;have HKK:=lhd hkk;clear hkk hrel;obtain⟨va1,vn1,vc1,rfl⟩:=qg (Sl.qc h4);obtain⟨vh1,vn2,vc2,rfl⟩:=qg h5;have fld:∀ U,Below W.heap.size W U->Below w.heap.size w U/\U.cell? ⟨bk,0,none⟩=some (.pointer (some ⟨T,0,none⟩))/\Fld U T BS BH BL nbf a n c mm/\MpI U BH n1 hi:=fun U hU=>by
   have hBU:Below w.heap.size w U:=HW.out.1.trans (hU.mono HW.out.1.size);exact⟨hBU,Cx.q8 hU HW.out.2.1,HP.out.1.q8 hBU,HP.out.2.2.2.2.2.1.q8 hBU⟩
  have hcI:∀ t∈ctm La,I64 t.c:=fun t ht=>by
   obtain⟨p,hp,rfl⟩:=List.mem_map.1 ht;exact q4s HP.out.2.1 HP.out.2.2.2.1 (h6 p.1 (by rw[zl h2.1 hp];exact h2.2 p hp))
  have hidx:=qii (.slice va1 vn1 vc1) (ctm La) 162 #[.pointer (some ⟨bk,0,none⟩)] (fun t=>hi t.c != 0) wr (Sl.qc h4) Tryz.call162 (fun U hU t ht=>by
   obtain⟨_,k2,k3,k4⟩:=fld U (hBr.trans (hU.mono hBr.size));exact qix t bk T BH n1 hi U k2 k3.t2 k4 (hcI t ht))
  have HIDX:=lhd hidx;have FLD:=lhd fld;have HST:=lhd (aiq h1 (aiq h2 (aiq h3 (aiq h4 (aiq h5 (aiq h6 (aiq h7 (aiq h8 (aiq hBr hcI)))))))));clear hidx fld h1 h2 h3 h4 h5 h6 h7 h8 hBr hcI;go_wp2_with fail;refine HIDX.out.mono ?_;rintro e w2 ⟨i,rfl,hfa,hb2⟩;have HB2:=lhd (aiq (HST.out.2.2.2.2.2.2.2.2.1.trans (hb2.mono HST.out.2.2.2.2.2.2.2.2.1.size)) hb2);clear hb2 HIDX;rcases hfa with ⟨rfl,hno⟩ | ⟨j,t,rfl,hj,htt,hbef⟩
  ·have HNO:=lhd hno;clear hno;go_wp2_with fail;go_ret2;obtain⟨h1,h2,h3,h4,h5,h6,h7,h8,hBr,hcI⟩:=HST.out;obtain⟨e1,e2⟩:=qlp h1 fun q hq=>by
    have:=HNO.out _ (List.mem_map_of_mem (f:=fun p:Int×Int=>(⟨p.1,decide (p.2 < 0),mg p.2⟩ : Tm)) hq);simpa using this
   obtain⟨b1,b2⟩:=HBD.out La Lh h6 h7 h8;refine⟨_,_,La,Lh,rfl,qa h4 HB2.out.2,h2,e1.symm,h5.q8 HB2.out.2,h3,e2.symm,e1 ▸ h6,e2 ▸ h7,fun d=>by rw[e1,e2];exact⟨b1 d,b2 d⟩,HW.out.1.trans (HB2.out.1.mono HW.out.1.size)⟩
  ·obtain⟨⟨c0,x0⟩,hp,rfl⟩ : ∃ p,La[j]? = some p/\t=⟨p.1,decide (p.2 < 0),mg p.2⟩:=by
    unfold ctm at hj;rw[List.getElem?_map] at hj;obtain⟨p,hp,he⟩:=Option.map_eq_some_iff.1 hj;exact⟨p,hp,he.symm⟩
   have hc0:hi c0≠0:=by simpa using htt
   obtain⟨h1,h2,h3,h4,h5,h6,h7,h8,hBr,hcI⟩:=HST.out;obtain⟨m,hm,hclr⟩:=qfv h1 h2 hp hc0 (fun q hq=>by
    have:=hbef ⟨q.1,decide (q.2 < 0),mg q.2⟩ (by
     show _∈(La.map _).take j;rw[<-List.map_take];exact List.mem_map_of_mem (f:=fun p:Int×Int=>(⟨p.1,decide (p.2 < 0),mg p.2⟩ : Tm)) hq)
    simpa using this)
   obtain⟨hF,hK,hG,hOK,hM,mH,hW',hcap,hbase⟩:=HP.out;have hco:co La c0=x0:=zl h2.1 (List.mem_of_getElem? hp);have hfc:co La c0≠0:=by rw[hco];exact h2.2 _ (List.mem_of_getElem? hp)
   have hcU:=h6 c0 hfc;have hcI0:I64 c0:=q4s hK hOK hcU;have hsn:=hM.sg c0 hc0;have hh:=q92 hsn;obtain⟨hv,hhv⟩ : ∃ hv,hv=hi c0:=⟨_,rfl⟩
   have hhI:I64 hv:=by
    rw[hhv];obtain⟨y,hy,he⟩:=List.any_eq_true.1 hh;have he:y.id=hi c0:=by simpa using he
    rw[<-he];exact q4s hK hOK (List.mem_map_of_mem hy)
   obtain⟨sg,hsg⟩ : ∃ sg,sg=sgn K hv c0:=⟨_,rfl⟩
   have hsg1:sg=1\/sg = -1:=by rw[hsg,hhv];exact hG.q2v hsn
   have hSl2:=(Sl.qc h4).q8 HB2.out.2;obtain⟨ad0,n0,cap0,he0,g1,g2,g3,g4,g5⟩:=hSl2;cases he0
   rw[z6,qz] at g3;have hjl:j < La.length:=(List.getElem?_eq_some_iff.1 hp).1;obtain⟨ad,rfl⟩ : ∃ ad,va1=some ad:=by
    cases va1 with
    | none=>have:=g4 rfl;omega
    | some ad=>exact⟨ad,rfl⟩
   obtain⟨e0,e1,e2⟩:=jd (ctm La) j ⟨c0,decide (x0 < 0),mg x0⟩ (by unfold ctm;rw[List.getElem?_map,hp];rfl);have d0:w2.cell? (ad.add (j*3))=some (.int .i64 c0):=g5 ad rfl _ _ e0;have d1:w2.cell? ⟨(ad.add (j*3)).block,(ad.add (j*3)).off+1,none⟩=some (.bool (decide (x0 < 0))):=by rw[qi _ _ _ (by omega)];exact g5 ad rfl _ _ e1
   have d2:w2.cell? ⟨(ad.add (j*3)).block,(ad.add (j*3)).off+2,none⟩=some (.string (mg x0)):=by rw[qi _ _ _ (by omega)];exact g5 ad rfl _ _ e2
   obtain⟨hBw2,kb2,hF2,mH2⟩:=FLD.out w2 HB2.out.1;have hjn:(j:Int) < vn1:=by omega
   have hj0:¬ (j:Int) < 0:=by omega
   have hj1:(0:Int)<=j:=by omega
   have l0:(Instr.lookup 122 (.map (some BH)) (.int .i64 c0) false).run Tryz.prog w2.drew = .ok (.int .i64 hv) w2.drew:=by
    rw[hhv];exact(mH2.q8 (qb (Below.refl _ w2) 1)).look hcI0
   have t2:=hF2.t2;have st5:∀ U,Below w2.heap.size w2 U->U.cell? ⟨bk,0,none⟩=some (.pointer (some ⟨T,0,none⟩))/\U.cell? ⟨T,1,none⟩=some (.map (some BS))/\U.cell? (ad.add (j*3))=some (.int .i64 c0) ∧
     (Instr.lookup 121 (.map (some BS)) (.int .i64 hv) false).run Tryz.prog U = .ok (.map (some (nbf hv))) U/\(Instr.lookup 122 (.map (some (nbf hv))) (.int .i64 c0) false).run Tryz.prog U = .ok (.int .i64 sg) U:=fun U hU=>by
    have f:=hF2.q8 hU;have a1:=q29 U f.sid.top hhI;have a2:=q7x (by rw[hK];exact hG.asc) f.sid.each hv hcI0;have hhh:jv (mm.map Ce.cl) hv=true:=by rw[hK,hhv];exact hh
    rw[hhh,if_pos rfl] at a1 a2;rw[hK,<-hsg] at a2;exact⟨Cx.q8 hU kb2,f.t1,Cx.q8 hU d0,a1,a2⟩
   have HS5:=lhd st5;have HX:=lhd (aiq hm (aiq hclr (aiq hco (aiq hhv (aiq hsg (aiq hsg1 (aiq hhI (aiq hcI0 (aiq hBw2 (aiq hF2 (aiq hjl (aiq hc0 hfc))))))))))));have HD:=lhd (aiq d0 (aiq d1 d2));clear hc0 h1 h2 h3 h4 h5 h6 h7 h8 hBr hcI hm hclr hF hK hG hOK hM mH hW' hcap hbase hco hfc hcU hcI0 hsn hh hhv hhI hsg hsg1 g3 g4 g5 hjl e0 e1 e2 hBw2 hF2 mH2 st5 hp htt hbef hj d1 d2;go_upto_region 4 with fail
   go_still (by kernel_rfl)
   show Exit.then _ _ _ _ w2.drew;obtain⟨w5,hw5⟩ : ∃ w5,w5=w2.drew:=⟨_,rfl⟩
   have B5:Below w2.heap.size w2 w5.drew:=by rw[hw5];exact qb (Below.refl _ w2) 2
   rw[<-hw5];clear l0 t2 d0 hw5;have hwr:IntKind.i64.wrap (-sg) = -sg:=by rcases HX.out.2.2.2.2.2.1 with h | h <;> rw[h] <;> decide
   have n1 : -9223372036854775808<=-sg:=by rcases HX.out.2.2.2.2.2.1 with h | h <;> omega
   have n2 : -sg<=9223372036854775807:=by rcases HX.out.2.2.2.2.2.1 with h | h <;> omega
   have b5:Bx (w5.drew.alloc (.cells #[.bool false,.string ⟨#[]⟩] 38)) w5.heap.size false ⟨#[]⟩:=Bx.new w5.drew _ _ _;obtain⟨x1,x2,x3,x4⟩:=b5;go_upto_region 5 with fail
   go_cut [8] from 27 to 40 (fun p wx=>∃ p8,p=Value.pointer (some ⟨p8,0,none⟩)/\Bx wx p8 (decide (0 < sg)) (mg (-sg))/\Below w2.heap.size w2 wx)
   case first =>
    rename_i Jx Kx hJx hKx
    go_region_held_law (fun U=>U.cell? ⟨bk,0,none⟩=some (.pointer (some ⟨T,0,none⟩))/\U.cell? ⟨T,1,none⟩=some (.map (some BS))/\U.cell? (ad.add (j*3))=some (.int .i64 c0) ∧
      (Instr.lookup 121 (.map (some BS)) (.int .i64 hv) false).run Tryz.prog U = .ok (.map (some (nbf hv))) U/\(Instr.lookup 122 (.map (some (nbf hv))) (.int .i64 c0) false).run Tryz.prog U = .ok (.int .i64 sg) U)
     (first | exact HS5.out _ B5 | exact HS5.out _ (B5.alloc B5.size _) | exact HS5.out _ B6 | exact HS5.out _ (B6.alloc B6.size _) | exact HS5.out _ ((B6.setCell (show w2.heap.size<=w5.heap.size from B5.size) _).setCell (show w2.heap.size<=w5.heap.size from B5.size) _) | exact HS5.out _ (((B6.alloc B6.size _).setCell (show w2.heap.size<=w6.heap.size from B6.size) _).setCell (show w2.heap.size<=w6.heap.size from B6.size) _) | fail)
     (first | (go_at_call 89;refine(qgv (-sg) _ n1 n2).mono ?_;rintro e w6 ⟨rfl,hb6⟩;have B6:Below w2.heap.size w2 w6:=(by first | exact B5.trans (hb6.mono B5.size) | exact(B5.alloc B5.size _).trans (hb6.mono (B5.alloc B5.size _).size));first | (have y1:=Cx.q8 hb6 x1;have y2:=Cx.q8 hb6 x2;have y3:=qv hb6 (by simp) x3;have y4:=qv hb6 (by simp) x4) | skip))
    all_goals
     ((try go_step);refine hKx _ _ (Met.intro ?_);refine hJx _ _ ?_;(repeat apply Exists.intro);refine⟨?rel,rfl⟩)
     case rel=>first | exact⟨_,rfl,Bx.new w6 _ _ _,B6.alloc B6.size _⟩ | exact⟨_,rfl,Bx.put (w:=w6) (b:=w5.heap.size) ⟨y1,y2,y3,y4⟩ (decide (0 < sg)) (mg (-sg)),q78 B6 (show w2.heap.size<=w5.heap.size from B5.size) _ _⟩
   case rest =>
    obtain⟨p8,rfl,hbx,hBc⟩:=hcut;obtain⟨bx1,bx2,_,_⟩:=hbx;obtain⟨d0,d1,d2⟩:=HD.out
    replace d1:=Cx.q8 hBc d1
    replace d2:=Cx.q8 hBc d2
    obtain⟨hm,hclr,hco,hhv,hsg,hsg1,hhI,hcI0,hBw2,hF2,hjl,hc0,hfc⟩:=HX.out;obtain⟨h1,h2,h3,h4,h5,h6,h7,h8,hBr,hcI⟩:=HST.out;obtain⟨b1,b2⟩:=HBD.out La Lh h6 h7 h8;obtain⟨y,hy⟩ : ∃ y,y = -sg*x0:=⟨_,rfl⟩
    have hnx:nb x0<=S+4003:=by rw[<-hco];exact b1 c0
    have hny:nb y<=S+4003:=by
     rw[hy];rcases hsg1 with h | h <;> rw[h]
     ·rw[show -1*x0 = -x0 by omega,qmt];exact hnx
     ·rw[show -(-1)*x0=x0 by omega];exact hnx
    have hmul:∀ U,Calls Tryz.prog 88 #[.agg #[.bool (decide (0 < sg)),.string (mg (-sg))],.agg #[.bool (decide (x0 < 0)),.string (mg x0)]] U fun e w'=>e = .returned (wv y)/\Below U.heap.size U w':=fun U=>by
     have h1:(mg (-sg)).size<=1099511627775:=by
      rw[j5];have:nb (-sg)<=1:=q31 _ _ (by rcases hsg1 with h | h <;> rw[h] <;> decide);omega
     have:=qmh (decide (-sg < 0)) (decide (x0 < 0)) (mg (-sg)) (mg x0) U h1 (by rw[j5];omega);rw[q0i,q0i,<-hy] at this;rw[show decide (0 < sg)=decide (-sg < 0) from decide_eq_decide.2 (by omega)];exact this
    have HMUL:=lhd hmul;have hBcW:Below W.heap.size W wc:=HB2.out.1.trans (hBc.mono HB2.out.1.size);have HY:=lhd (aiq hy (aiq hny (aiq hBcW hBc)));have HS6:Hid (∀ U,Below wc.heap.size wc U->U.cell? ⟨p8,0,none⟩=some (.bool (decide (0 < sg)))/\U.cell? ⟨p8,1,none⟩=some (.string (mg (-sg)))/\U.cell? ⟨(ad.add (j*3)).block,(ad.add (j*3)).off+1,none⟩=some (.bool (decide (x0 < 0)))/\U.cell? ⟨(ad.add (j*3)).block,(ad.add (j*3)).off+2,none⟩=some (.string (mg x0))):=fun U hU=>⟨Cx.q8 hU bx1,Cx.q8 hU bx2,Cx.q8 hU d1,Cx.q8 hU d2⟩
    have B6:Below wc.heap.size wc wc.drew:=qb (Below.refl _ wc) 1;clear hm hclr hco hhv hsg hsg1 hhI hcI0 hBw2 hF2 hjl hc0 hfc h1 h2 h3 h4 h5 h6 h7 h8 hBr hcI b1 b2 hy hnx hny hmul hBcW hBc bx1 bx2 d1 d2 d0 n1 n2 hwr B5 x1 x2 x3 x4;go_upto_region 6 with fail
    go_region_held_law (fun U=>U.cell? ⟨p8,0,none⟩=some (.bool (decide (0 < sg)))/\U.cell? ⟨p8,1,none⟩=some (.string (mg (-sg)))/\U.cell? ⟨(ad.add (j*3)).block,(ad.add (j*3)).off+1,none⟩=some (.bool (decide (x0 < 0)))/\U.cell? ⟨(ad.add (j*3)).block,(ad.add (j*3)).off+2,none⟩=some (.string (mg x0)))
     (first | exact HS6.out _ B6 | exact HS6.out _ B7 | exact HS6.out _ (B7.alloc B7.size _) | fail)
     (first | (go_at_call 88;refine(HMUL.out _).mono ?_;rintro e w7 ⟨rfl,hb7⟩;have B7:Below wc.heap.size wc w7:=B6.trans (hb7.mono B6.size)))
    have hs:=q13 w7 71 3 [.int .i64 hv,.bool (decide (y < 0)),.string (mg y)] 1 rfl (by unfold maxLen;omega);obtain⟨w8,hw8⟩ : ∃ w8,w8=w7.alloc (.cells #[.int .i64 hv,.bool (decide (y < 0)),.string (mg y)] 71):=⟨_,rfl⟩
    have hs:Sl w8 3 (.slice (some ⟨w7.heap.size,0,none⟩) 1 1) (tv (ctm [(hv,y)])):=by rw[hw8];exact hs
    have B8:Below wc.heap.size wc w8:=by rw[hw8];exact B7.alloc B7.size _
    rw[<-hw8];obtain⟨hm,hclr,hco,hhv,hsg,hsg1,hhI,hcI0,hBw2,hF2,hjl,hc0,hfc⟩:=HX.out;obtain⟨h1,h2,h3,h4,h5,h6,h7,h8,hBr,hcI⟩:=HST.out;obtain⟨hF,hK,hG,hOK,hM,mH,hW',hcap,hbase⟩:=HP.out;obtain⟨b1,b2⟩:=HBD.out La Lh h6 h7 h8;obtain⟨hy,hny,hBcW,hBc⟩:=HY.out;have BW8:Below W.heap.size W w8:=hBcW.trans (B8.mono hBcW.size);have Br8:Below wr.heap.size wr w8:=HB2.out.2.trans ((hBc.trans (B8.mono hBc.size)).mono HB2.out.2.size);have hvh:=h5.q8 Br8;have hva:=(Sl.qc h4).q8 Br8;have tok1:TOk (S+4003) (ctm Lh):=q9i hK hOK h3 h7 b2;have tok2:TOk (S+4003) (ctm [(hv,y)]):=LOk.tok fun p hp=>by
     have:p=(hv,y):=by simpa using hp
     rw[this];exact⟨hhI,hny⟩
    have tok3:TOk (S+4003) (ctm La):=q9i hK hOK h2 h6 b1;have lLa:=q6u h2 h6;have lLh:=q6u h3 h7;have hKl:=hG.len;have hraw:(zk mm).length<=256000:=by rw[q2q,hK];exact q6v hG
    have HZ:=lhd (aiq hs (aiq BW8 (aiq hvh (aiq hva (aiq tok1 (aiq tok2 (aiq tok3 (aiq lLa (aiq lLh (aiq hKl hraw))))))))));clear hm hclr hco hhv hsg hsg1 hhI hcI0 hBw2 hF2 hjl hc0 hfc h1 h2 h3 h4 h5 h6 h7 h8 hBr hcI hF hK hG hOK hM mH hW' hcap hbase b1 b2 hy hny hBcW hBc hs BW8 Br8 hvh hva tok1 tok2 tok3 lLa lLh hKl hraw hw8 B8 B7 hb7 B6;go_wp2_with fail;refine(qbw _ _ (ctm Lh) (ctm [(hv,y)]) (S+4003) w8 HZ.out.2.2.1 HZ.out.1 HZ.out.2.2.2.2.1 HZ.out.2.2.2.2.2.1 (by rw[qz,qz];have:=HZ.out.2.2.2.2.2.2.2.2;show _+_+1<=_;omega)).mono ?_;rintro e w9 ⟨r9,rfl,⟨Lh2,cn9,cv9,ln9,row9⟩,hb9⟩;obtain⟨v9,n9,c9,rfl⟩:=qg (Sl.qc row9);have BW9:Below W.heap.size W w9:=HZ.out.2.1.trans (hb9.mono HZ.out.2.1.size);obtain⟨_,kb9,hF9,_⟩:=FLD.out w9 BW9;have hF0:=hF9.t0;have HN:=lhd (aiq cn9 (aiq cv9 (aiq row9 (aiq hb9 (aiq BW9 hF9)))));clear cn9 cv9 ln9 row9 hb9 BW9 hF9;go_wp2_with fail;refine(q5y _ mm _ (ctm [(hv,y)]) (S+4003) w9 HN.out.2.2.2.2.2.row HP.out.2.2.2.1 (HZ.out.1.q8 HN.out.2.2.2.1) HZ.out.2.2.2.2.2.1 (by rw[qz];have:=HZ.out.2.2.2.2.2.2.2.2;show _+1+_<=_;omega)).mono ?_;rintro e w10 ⟨r10,rfl,⟨Lb,cn10,cv10,ln10,row10⟩,hb10⟩;obtain⟨v10,n10,c10,rfl⟩:=qg (Sl.qc row10);have hbd:co Lb=bdD K hv y:=funext fun d=>by
     rw[cv10,zv,vg,q2q,HP.out.2.1];rfl
    have in10:In0 K (co Lb):=by rw[hbd];exact qcu HP.out.2.2.1 hv y
    have nb10:∀ d,nb (co Lb d)<=S+4004:=fun d=>by
     rw[hbd,HP.out.2.2.1.bdD];have h1:=q39 y (sgn K hv d);have h2:=q87 HP.out.2.2.1 hv d;have h3:=HY.out.2.1;omega
    have tok10:TOk (S+4004) (ctm Lb):=q9i HP.out.2.1 HP.out.2.2.2.1 cn10 in10 nb10;have l10:=q6u cn10 in10;have HT:=lhd (aiq hbd (aiq row10 (aiq hb10 (aiq tok10 l10))));clear cn10 cv10 ln10 row10 hb10 hbd in10 nb10 tok10 l10;go_wp2_with fail;have hB810:Below w8.heap.size w8 w10:=HN.out.2.2.2.1.trans (HT.out.2.2.1.mono HN.out.2.2.2.1.size);refine(qbw _ _ (ctm La) (ctm Lb) (S+4004) w10 (HZ.out.2.2.2.1.q8 hB810) (Sl.qc HT.out.2.1) (HZ.out.2.2.2.2.2.2.1.mono (by omega)) HT.out.2.2.2.1 (by rw[qz,qz];have h1:=HZ.out.2.2.2.2.2.2.2;have h2:=HT.out.2.2.2.2;omega)).mono ?_;rintro e w11 ⟨r11,rfl,⟨La2,cn11,cv11,ln11,row11⟩,hb11⟩;obtain⟨v11,n11,c11,rfl⟩:=qg (Sl.qc row11);have hnew:Cst W base K hi Wt B f' h' m (.slice v11 n11 c11) (.slice v9 n9 c9) w11:=by
     obtain⟨hm,hclr,hco,hhv,hsg,hsg1,hhI,hcI0,hBw2,hF2,hjl,hc0,hfc⟩:=HX.out;obtain⟨h1,h2,h3,h4,h5,h6,h7,h8,hBr,hcI⟩:=HST.out;obtain⟨hF,hK,hG,hOK,hM,mH,hW',hcap,hbase⟩:=HP.out;obtain⟨hy,hny,hBcW,hBc⟩:=HY.out;obtain⟨cn9,cv9,row9,hb9,BW9,hF9⟩:=HN.out;obtain⟨hbd,row10,hb10,tok10,l10⟩:=HT.out;have e1:co La2=stF K hi (co La) c0:=funext fun d=>by
      rw[cv11,zv,zv,hbd,hy];show _=co La d+bdD K (hi c0) (-(sgn K (hi c0) c0)*co La c0) d;rw[hco,<-hhv,<-hsg]
     have e2:co Lh2=stH K hi (co La) (co Lh) c0:=funext fun d=>by
      rw[cv9,zv,zv,vg,hy];show _=co Lh d+qw (hi c0) (-(sgn K (hi c0) c0)*co La c0) d;rw[hco,<-hhv,<-hsg]
     have BW10:Below W.heap.size W w10:=BW9.trans (hb10.mono BW9.size);refine⟨⟨La2,Lh2,?_,cn11,cn9,qf row11 (Nat.le_trans hbase (Nat.le_trans HW.out.1.size BW10.size)),(Sl.qc row9).q8 (hb10.trans (hb11.mono hb10.size)),?_,?_,?_⟩,BW10.trans (hb11.mono BW10.size)⟩
     ·rw[e1,e2];exact hclr
     ·rw[e1];exact qmn hG h6 c0
     ·rw[e2];exact qo8 hG hM h7 hc0
     ·rw[e1,e2];exact Nat.le_trans (qlo hG hM hW' h6 hfc hc0) h8
    have HNEW:=lhd hnew;clear hnew cn11 cv11 ln11 row11 hb11 hB810;go_wp2_with fail;go_roundw
    case measure=>exact qiy (HKK.out.symm.trans HX.out.1) HNEW.out
    case rel=>exact⟨_,HNEW.out⟩
end Go.Proofs.YtlhicnfeajejhaaGreatDoor
