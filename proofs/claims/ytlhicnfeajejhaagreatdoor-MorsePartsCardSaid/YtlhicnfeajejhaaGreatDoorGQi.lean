/- Steps towards MorseParts. Conditions: none. -/
import Derived.Test.YtlhicnfeajejhaaGreatDoorGQf
import Derived.Test.YtlhicnfeajejhaaGreatDoorGQg
set_option maxRecDepth 1000000
set_option maxHeartbeats 16000000
namespace Go.Proofs.YtlhicnfeajejhaaGreatDoor
open Go.Cx Go.RowKit
theorem MpI.entry {w:World} {b n:Nat} {h:Int->Int} (m:MpI w b n h) {c:Int} (hc:I64 c) (hn:n < maxLen) :
  ∃ (v0:Value) (st:Nat) (w1:World),(Instr.mapEntry 122 (.map (some b)) (.int .i64 c)).run Tryz.prog w = .ok (.tuple #[v0,goInt st]) w1/\w.grownBy w1 (some b) ∧
   ∀ (w2:World) (v:Int),w2.heap[b]? = w1.heap[b]?->∃ w3,(Instr.entryStore 122 (.map (some b)) (goInt st) (.int .i64 v)).run Tryz.prog w2 = .ok () w3/\MpI w3 b (n+1) (pu h c v)/\w2.grownBy w3 (some b):=by
 obtain⟨g,h1,h2⟩:=m;obtain⟨v0,st,w1,e1,e2,e3⟩:=h1.entry Tryz.underlying3 Tryz.underlying122 q40 hn (yx hc);refine⟨v0,st,w1,e1,e2,fun w2 v hb=>?_⟩;obtain⟨w3,f1,f2,f3⟩:=e3 w2 (.int .i64 v) hb;exact⟨w3,f1,MpI.q6j h2 f2,f3⟩
theorem MpI.kept {w w':World} {b n:Nat} {h:Int->Int} {row:Option Nat} (m:MpI w b n h) (hg:w.grownBy w' row) (al:some b≠row):MpI w' b n h:=by obtain⟨g,h1,h2⟩:=m;exact⟨g,h1.kept hg al,h2⟩
def qiv (w w':World) (A B nA nB:Nat) (hA hB:Int->Int) (c d u v:Int):Prop:=MpI w' A (nA+1) (pu hA c u)/\MpI w' B (nB+1) (pu hB d v)/\Gs (HL A B) w w'
theorem _root_.Go.Cx.Gs.ent {A B b:Nat} {w w' w'':World} (h:Gs (HL A B) w w') (g:w'.grownBy w'' (some b)) (hb:b=A\/b=B):Gs (HL A B) w w'':=h.grown g (fun k e=>by cases e;exact .inr hb)
def qbc (w:World) (A B:Nat) (c d u v:Int) (G F:World->Prop):Prop :=
  ∃ (vA:Value) (sA:Nat) (w1:World),(Instr.mapEntry 122 (.map (some A)) (.int .i64 c)).run Tryz.prog w = .ok (.tuple #[vA,.int .i64 sA]) w1/\G w1 ∧
   (∃ (w3:World) (vB:Value) (sB:Nat) (w4 w5:World),(Instr.entryStore 122 (.map (some A)) (.int .i64 sA) (.int .i64 u)).run Tryz.prog w1 = .ok () w3/\G w3 ∧
    (Instr.mapEntry 122 (.map (some B)) (.int .i64 d)).run Tryz.prog w3 = .ok (.tuple #[vB,.int .i64 sB]) w4/\G w4 ∧
    (Instr.entryStore 122 (.map (some B)) (.int .i64 sB) (.int .i64 v)).run Tryz.prog w4 = .ok () w5/\F w5) ∧
   (∃ (vB:Value) (sB:Nat) (w4 w5 w6 w7 w8:World),(Instr.mapEntry 122 (.map (some B)) (.int .i64 d)).run Tryz.prog w1 = .ok (.tuple #[vB,.int .i64 sB]) w4/\G w4 ∧
    (Instr.entryStore 122 (.map (some A)) (.int .i64 sA) (.int .i64 u)).run Tryz.prog w4 = .ok () w5/\G w5 ∧
    (Instr.entryStore 122 (.map (some B)) (.int .i64 sB) (.int .i64 v)).run Tryz.prog w5 = .ok () w6/\F w6 ∧
    (Instr.entryStore 122 (.map (some B)) (.int .i64 sB) (.int .i64 v)).run Tryz.prog w4 = .ok () w7/\G w7 ∧
    (Instr.entryStore 122 (.map (some A)) (.int .i64 sA) (.int .i64 u)).run Tryz.prog w7 = .ok () w8/\F w8)
theorem qbc.mono {w:World} {A B:Nat} {c d u v:Int} {G F G' F':World->Prop} (h:qbc w A B c d u v G F) (hG:∀ U,G U->G' U) (hF:∀ U,F U->F' U):qbc w A B c d u v G' F':=by obtain⟨vA,sA,w1,a1,a2,⟨w3,vB,sB,w4,w5,b1,b2,b3,b4,b5,b6⟩,vC,sC,x4,x5,x6,x7,x8,c1,c2,c3,c4,c5,c6,c7,c8,c9,CX⟩:=h;exact⟨vA,sA,w1,a1,hG _ a2,⟨w3,vB,sB,w4,w5,b1,hG _ b2,b3,hG _ b4,b5,hF _ b6⟩,vC,sC,x4,x5,x6,x7,x8,c1,hG _ c2,c3,hG _ c4,c5,hF _ c6,c7,hG _ c8,c9,hF _ CX⟩
theorem qbd {w:World} {A B nA nB:Nat} {hA hB:Int->Int} (mA:MpI w A nA hA) (mB:MpI w B nB hB) (al:A≠B) {c d:Int} (u v:Int) (hc:I64 c) (hd:I64 d) (lA:nA < maxLen) (lB:nB < maxLen) :
  qbc w A B c d u v (Gs (HL A B) w) (fun U=>qiv w U A B nA nB hA hB c d u v):=by
 obtain⟨vA,sA,w1,a1,a2,a3⟩:=mA.entry hc lA;have Zr:A < w.heap.size:=mA.lt;have Zs:B < w.heap.size:=mB.lt;have g1:Gs (HL A B) w w1:=(Gs.refl _ w).ent a2 (.inl rfl);have QC:MpI w1 B nB hB:=mB.kept a2 (fun e=>al (osi e).symm);have q1n:∀ {x y:World},x.grownBy y (some A)->B < x.heap.size->y.heap[B]? = x.heap[B]?:=fun g hb=>g.block B hb (fun e=>al (osi e).symm)
 have tk:∀ {x y:World},x.grownBy y (some B)->A < x.heap.size->y.heap[A]? = x.heap[A]?:=fun g ha=>g.block A ha (fun e=>al (osi e))
 refine⟨vA,sA,w1,a1,g1,?_,?_⟩
 ·obtain⟨w3,b1,b2,b3⟩:=a3 w1 u rfl;have Wf:MpI w3 B nB hB:=QC.kept b3 (fun e=>al (osi e).symm);have g3:=g1.ent b3 (.inl rfl);obtain⟨vB,sB,w4,c1,c2,c3⟩:=Wf.entry hd lB;have g4:=g3.ent c2 (.inr rfl);obtain⟨w5,d1,d2,d3⟩:=c3 w4 v rfl;exact⟨w3,vB,sB,w4,w5,b1,g3,c1,g4,d1,(b2.kept c2 (fun e=>al (osi e))).kept d3 (fun e=>al (osi e)),d2,g4.ent d3 (.inr rfl)⟩
 ·obtain⟨vB,sB,w4,c1,c2,c3⟩:=QC.entry hd lB;have g4:=g1.ent c2 (.inr rfl);have s1:=a2.size;have s4:=c2.size;obtain⟨w5,d1,d2,d3⟩:=a3 w4 u (tk c2 (by omega));have g5:=g4.ent d3 (.inl rfl);have s5:=d3.size;obtain⟨w6,e1,e2,e3⟩:=c3 w5 v (q1n d3 (by omega));obtain⟨w7,f1,f2,f3⟩:=c3 w4 v rfl;have g7:=g4.ent f3 (.inr rfl);obtain⟨w8,h1,h2,h3⟩:=a3 w7 u ((tk f3 (by omega)).trans (tk c2 (by omega)));exact⟨vB,sB,w4,w5,w6,w7,w8,c1,g4,d1,g5,e1,⟨d2.kept e3 (fun e=>al (osi e)),e2,g5.ent e3 (.inr rfl)⟩,f1,g7,h1,h2,f2.kept h3 (fun e=>al (osi e).symm),g7.ent h3 (.inl rfl)⟩
theorem qeg {w:World} {A B nA nB:Nat} {hA hB:Int->Int} (mA:MpI w A nA hA) (mB:MpI w B nB hB) (al:A≠B) {c d:Int} (u v:Int) (hc:I64 c) (hd:I64 d) (lA:nA < maxLen) (lB:nB < maxLen) :
  qbc w A B c d u v (Gs (HL A B) w) (fun U=>qiv w U A B nA nB hA hB c d u v)/\qbc w B A d c v u (Gs (HL A B) w) (fun U=>qiv w U A B nA nB hA hB c d u v) :=
 ⟨qbd mA mB al u v hc hd lA lB,(qbd mB mA (fun e=>al e.symm) v u hd hc lB lA).mono (fun _ h=>h.mono fun _ _ hb=>hb.symm) fun _ h=>⟨h.2.1,h.1,h.2.2.mono fun _ _ hb=>hb.symm⟩⟩
theorem qfw {mm l:List Ce} (dL:mm.map Ce.cl=canon (l.map Ce.cl)) (hok:COk l):COk mm:=fun x hx=>by
 have hI:=q6m dL hok x hx;refine⟨⟨hI.1,hI.2.1⟩,?_,hI.2.2⟩;have h1:x.cl∈canon (l.map Ce.cl):=by rw[<-dL];exact gG hx
 unfold canon at h1;obtain⟨y,hy,e⟩:=gr.1 h1;obtain⟨z,hz,rfl⟩:=gr.1 ((q2m _ _).1 hy);have e3:stb Sd.c z.s=x.s:=congrArg Cl.s e;rw[<-e3,qdp];exact(hok z hz).2.1
structure Opn (w w':World) (K:List Cl) (ps:List (Int×Int)) (T:Nat):Prop where
 ex:∃ (BS BH BL:Nat) (nb:Int->Nat) (a:Option Addr) (n c:Nat) (mm:List Ce) (hi lo:Int->Int),Fld w' T BS BH BL nb a n c mm/\mm.map Ce.cl=canon K/\COk mm/\MpI w' BH ps.length hi/\MpI w' BL ps.length lo ∧
  xk (canon K) zz zz ps=some (hi,lo)/\Mtc (canon K) hi lo/\(∀ a,¬ yp (canon K) hi a)/\w.heap.size<=T/\w.heap.size<=BS/\w.heap.size<=BH/\w.heap.size<=BL
theorem q6s (v pvv:Value) (l:List Ce) (ps:List (Int×Int)) (w:World) (h:SlC w v l) (hl:l.length<=1099511627776) (hok:COk l) (hp:Sl w 2 pvv (pv ps)) (hpI:∀ p∈ps,I64 p.1/\I64 p.2) :
  Calls Tryz.prog 98 #[.agg #[v],pvv] w fun e w'=>BwQ w w' ∧
   ((∃ E:Int,E≠0/\e = .returned (.tuple #[.pointer none,.int .i64 E])/\opE (l.map Ce.cl) ps=E)\/(opE (l.map Ce.cl) ps=0/\chk (l.map Ce.cl)=(0,0)/\∃ T,e = .returned (.tuple #[.pointer (some ⟨T,0,none⟩),.int .i64 0])/\Opn w w' (l.map Ce.cl) ps T)):=by
 obtain⟨a,len,cap,rfl⟩:=qg h.1;obtain⟨a1,fj,kX,rfl,p1,p2,p3,p4,p5⟩:=hp;unfold maxLen at p2;rw[yq] at p3;have cm:ps.length=fj:=by omega
 have HA:=lhd (aiq h (aiq hl (aiq hok hpI)));have HP:=lhd (aiq cm (aiq p4 p5));clear h hl hok hpI p3 p4 p5 cm;go_enter Tryz.func98,Tryz.ntmps98;go_wp2_with fail;obtain⟨W,hW⟩ : ∃ W:World,W=w.alloc (.cells #[.slice a len cap] 26):=⟨_,rfl⟩
 rw[<-hW];have bI:BwQ w W:=by rw[hW];exact bal w _
 have kb:W.cell? ⟨w.heap.size,0,none⟩=some (.slice a len cap):=by rw[hW];exact qd w #[.slice a len cap] 26 (0,0) 0
 clear hW;obtain⟨ce,uQ⟩ : ∃ ce,ce=(chk (l.map Ce.cl)).2:=⟨_,rfl⟩
 refine(qlh _ l W (HA.out.1.q8 bI) HA.out.2.1 HA.out.2.2.1).mono ?_;rintro e w1 ⟨rfl,ak⟩;rw[<-uQ];have LX:=Cx.q8 ak kb;have kO:BwQ w w1:=(btr bI ak);have aV:=lhd kO;clear kb kO ak bI;by_cases fD:ce=0
 case neg =>
  have Ip:(ce != 0)=true:=by simpa using fD
  have HC:=lhd (aiq uQ fD);clear uQ fD;go_wp2_with fail;go_ret2;exact⟨aV.out,.inl ⟨ce,HC.out.2,rfl,by unfold opE;rw[<-HC.out.1,if_neg HC.out.2]⟩⟩
 have cJ:chk (l.map Ce.cl)=(0,0):=qir (uQ.symm.trans fD);have HK:=lhd cJ;clear uQ cJ;subst fD;go_wp2_with fail;refine(q8l _ l w1 (HA.out.1.q8 aV.out) HA.out.2.1 (fun x hx=>(HA.out.2.2.1 x hx).2.1)).mono ?_;rintro e w2 ⟨r,mm,rfl,dL,aA,kD,aw⟩;have kH:=Sl.qc aA;obtain⟨a2,n2,c2,rfl⟩:=qg kH;have F2:SlC w2 (.slice a2 n2 c2) mm:=⟨kH,fun x hx=>Sl.qc (kD x hx)⟩
 have bG:=lhd ((btr aV.out aw));have HS:=lhd (aiq F2 dL);have hG:Cx.Good (canon (l.map Ce.cl)):=q0d HK.out;have HG:=lhd hG;clear aA kD aw kH F2 dL LX hG;go_wp2_with fail;have Br:=qfw HS.out.2 HA.out.2.2.1;have Bt:Asc (mm.map Ce.cl):=by rw[HS.out.2];exact HG.out.asc
 refine(qp9 a2 n2 c2 mm w2 HS.out.1 Br Bt).mono ?_;rintro e w3 ⟨T,BS,BH,BL,nb,rfl,hF,hH,QD,l1,l2,l3,l4,ar⟩;have HF:=lhd (aiq hF (aiq Br Bt));have HM:=lhd (aiq hH QD);have tl:=(btr bG.out ar);have fC:=lhd tl;have qV:w.heap.size<=T/\w.heap.size<=BS/\w.heap.size<=BH/\w.heap.size<=BL:=by have:=bG.out.size;omega
 have HO:=lhd qV;have yY:BH≠BL:=hF.ne.2.2.2.2;have uH:T≠BH/\T≠BL:=⟨hF.ne.1,hF.ne.2.1⟩
 have dL:mm.map Ce.cl=canon (l.map Ce.cl):=HS.out.2;obtain⟨K,hK⟩ : ∃ K,K=canon (l.map Ce.cl):=⟨_,rfl⟩
 rw[<-hK] at HG dL;have oO:=lhd (aiq hK dL);have LZ:=lhd (aiq yY uH);clear hF hH QD Br Bt ar tl l1 l2 l3 l4 qV hK dL HS uH yY;go_wp2_with fail;go_loopw [26] (fun i wr=>∃ k:Nat,i = .int .i64 k/\k<=fj/\Hid (∃ hi lo,xk K zz zz (ps.take k)=some (hi,lo)/\Mtc K hi lo/\MpI wr BH k hi/\MpI wr BL k lo/\Gs (HL BH BL) w3 wr)) (fun i _=>fj - (vI i).toNat)
 case atStart=>exact⟨0,rfl,go _,zz,zz,by rw[List.take_zero,xk],q6p K,HM.out.1,HM.out.2,Gs.refl _ _⟩
 case round =>
  obtain⟨k,rfl,hk,HR⟩:=hrel;by_cases hlt:k < fj
  ·obtain⟨ad,rfl⟩:=sadq HP.out.2.1 (by omega)
   obtain⟨⟨x,y⟩,ht⟩ : ∃ t,ps[k]? = some t:=⟨_,g8 (by rw[HP.out.1];exact hlt)⟩
   obtain⟨e0,e1⟩:=kv ps k _ ht;obtain⟨xI,yI⟩:=HA.out.2.2.2 _ (gh ht);obtain⟨hi,lo,aC,cO,mH,mL,ri⟩:=HR.out;have aR:BwQ w wr:=fC.out.trans (ri.below (B:=w.heap.size) fC.out.size (fun b hb=>by have:=HO.out;rcases hb with rfl | rfl <;> omega));have d0:wr.cell? (ad.add (k*2))=some (.int .i64 x):=Cx.q8 aR (HP.out.2.2 ad rfl _ _ e0);have d1:wr.cell? ⟨(ad.add (k*2)).block,(ad.add (k*2)).off+1,none⟩=some (.int .i64 y):=by rw[qi _ _ _ (by omega)];exact Cx.q8 aR (HP.out.2.2 ad rfl _ _ e1)
   have lq:=HF.out.1.gs ri;have HT:=lhd (aiq ht (aiq xI yI));have e9:=lhd (aiq aC (aiq cO (aiq mH (aiq mL (aiq ri aR)))));have Wg:=lhd lq;clear e0 e1 ht xI yI aC cO mH mL ri aR lq HR;go_wp2_with fail;obtain⟨V,hV⟩ : ∃ V:World,V=wr.alloc (.cells #[.int .i64 x,.int .i64 y] 50):=⟨_,rfl⟩
   rw[<-hV];have aN:BwQ wr V:=by rw[hV];exact bal wr _
   have z0:V.cell? ⟨wr.heap.size,0,none⟩=some (.int .i64 x):=by rw[hV];exact qd wr _ _ (0,0) 0
   have z1:V.cell? ⟨wr.heap.size,1,none⟩=some (.int .i64 y):=by rw[hV];exact qd wr _ _ (0,0) 1
   clear hV d0 d1;obtain⟨aC,cO,mH,mL,ri,aR⟩:=e9.out;obtain⟨ht,xI,yI⟩:=HT.out;have I4:=Wg.out.q8 aN;have CY:=mH.q8 aN;have CZ:=mL.q8 aN;have jM:=qih I4 HF.out.2.2 CY CZ x y xI yI;rw[oO.out.2] at jM;have pP:k < maxLen:=by unfold maxLen;omega
   have vW:wr.heap.size < V.heap.size:=World.block_lt_of_cell? V _ z0;have vX:BH < wr.heap.size/\BL < wr.heap.size:=⟨mH.lt,mL.lt⟩
   have t2:=I4.t2;have t3:=I4.t3;have tp:=lhd jM;have HV:=lhd (aiq aN (aiq CY (aiq CZ (aiq pP (aiq vW vX)))));clear aC cO mH mL ri aR ht xI yI I4 CY CZ jM aN pP vW vX;refine tp.out.mono ?_;rintro e w4 ⟨rfl,vV⟩;have vV:=vV.symm;subst vV;by_cases hf:kc K hi lo x y=true
   case neg =>
    have hf:kc K hi lo x y=false:=by simpa using hf
    have mq:=lhd hf;rw[hf];clear hf;go_wp2_with fail;go_ret2;obtain⟨aC,cO,mH,mL,ri,aR⟩:=e9.out;refine⟨(btr aR HV.out.1),.inl ⟨42,by decide,rfl,?_⟩⟩;have h1:xk K zz zz (ps.take k++[(x,y)])=none:=by rw[q14,aC];show (if kc K hi lo x y then _ else none)=none;rw[mq.out];rfl
    have h2:=q3i (ps.take k++[(x,y)]) (ps.drop (k+1)) h1;rw[show ps.take k++[(x,y)]++ps.drop (k+1)=ps by
     conv=>rhs;rw[<-gu (k+1) ps,gq,HT.out.1]
     rfl] at h2
    unfold opE;rw[HK.out,if_pos rfl,<-oO.out.1];unfold j8;rw[show (fun _=>0:Int->Int)=zz from rfl,h2]
   have mq:=lhd hf;rw[hf];clear hf;go_upto_region 10 with fail;obtain⟨aN,CY,CZ,pP,vW,vX⟩:=HV.out;have jN:∀ U,Gs (HL BH BL) V.drew U->U.cell? ⟨T,2,none⟩=some (.map (some BH))/\U.cell? ⟨T,3,none⟩=some (.map (some BL))/\U.cell? ⟨wr.heap.size,0,none⟩=some (.int .i64 x)/\U.cell? ⟨wr.heap.size,1,none⟩=some (.int .i64 y):=fun U hU=>by
    have hT:¬ HL BH BL T:=fun e=>e.elim LZ.out.2.1 LZ.out.2.2
    have hb:¬ HL BH BL wr.heap.size:=fun e=>e.elim (fun e=>by omega) (fun e=>by omega)
    exact⟨hU.cell hT t2,hU.cell hT t3,hU.cell hb z0,hU.cell hb z1⟩
   have KV:=lhd jN;have dK:∀ U,qiv V.drew U BH BL k k hi lo x y y x->Hid (∃ hi lo,xk K zz zz (ps.take (k+1))=some (hi,lo)/\Mtc K hi lo/\MpI U BH (k+1) hi/\MpI U BL (k+1) lo/\Gs (HL BH BL) w3 U):=fun U hU=>by obtain⟨aC,cO,mH,mL,ri,aR⟩:=e9.out;refine⟨pu hi x y,pu lo y x,?_,q9d HG.out cO mq.out,hU.1,hU.2.1,((ri.trans (Gs.xh aN)).drew).trans hU.2.2⟩;rw[gq,HT.out.1];show xk K zz zz (ps.take k++[(x,y)])=_;rw[q14,aC];show (if kc K hi lo x y then _ else none)=_;rw[mq.out];rfl
   have FN:=lhd dK;obtain⟨hA,hB⟩:=qeg (w:=V.drew) (CY.q8 (qb (Below.refl _ V) 1)) (CZ.q8 (qb (Below.refl _ V) 1)) LZ.out.1 y x HT.out.2.1 HT.out.2.2 (by omega) (by omega);unfold qbc at hA hB;obtain⟨vA,sA,Wh,QE,I5,⟨Wi,Wj,Wk,Wl,Wm,QF,I6,QG,I7,QH,F3⟩,Wn,Wo,Wp,Wq,Wr,Ws,Ma,QI,I8,QJ,I9,QK,F4,QL,IA,F8,tq⟩:=hA;obtain⟨vB,sB,Wu,QM,IB,⟨Wv,Ww,Wx,Wz,W6,QN,IC,QO,ID,QP,FB⟩,W7,W8,WA,WB,WC,WD,Mb,QQ,IE,QR,IF,QS,FC,QT,IG,FD,tr⟩:=hB;have aO:=lhd (aiq F3 (aiq F4 (aiq tq (aiq FB (aiq FC tr)))));clear jN dK aN CY CZ pP vW vX F3 F4 tq FB FC tr
   go_region_held (fun w'=>w'.cell? ⟨T,2,none⟩=some (.map (some BH))/\w'.cell? ⟨T,3,none⟩=some (.map (some BL))/\w'.cell? ⟨wr.heap.size,0,none⟩=some (.int .i64 x)/\w'.cell? ⟨wr.heap.size,1,none⟩=some (.int .i64 y)) (first | exact KV.out _ (Gs.refl _ _) | exact KV.out _ I5 | exact KV.out _ I6 | exact KV.out _ I7 | exact KV.out _ I8 | exact KV.out _ I9 | exact KV.out _ IA | exact KV.out _ IB | exact KV.out _ IC | exact KV.out _ ID | exact KV.out _ IE | exact KV.out _ IF | exact KV.out _ IG | exact KV.out _ aO.out.1.2.2 | exact KV.out _ aO.out.2.1.2.2 | exact KV.out _ aO.out.2.2.1.2.2 | exact KV.out _ aO.out.2.2.2.1.2.2 | exact KV.out _ aO.out.2.2.2.2.1.2.2 | exact KV.out _ aO.out.2.2.2.2.2.2.2 | fail) (fail)
   all_goals
    go_wp2_with fail;go_roundw
    case measure=>simp[vI];omega
    case rel=>exact⟨k+1,qh (by omega),by omega,by first | exact FN.out _ aO.out.1 | exact FN.out _ aO.out.2.1 | exact FN.out _ aO.out.2.2.1 | exact FN.out _ aO.out.2.2.2.1 | exact FN.out _ aO.out.2.2.2.2.1 | exact FN.out _ aO.out.2.2.2.2.2⟩
  ·have bE:k=fj:=by omega
   subst bE;obtain⟨wo,de⟩ : ∃ wo,wo=wr:=⟨_,rfl⟩
   subst de;obtain⟨hi,lo,aC,cO,mH,mL,ri⟩:=HR.out;rw[gm (by rw[HP.out.1];exact nlr _)] at aC;have aR:BwQ w wo:=fC.out.trans (ri.below (B:=w.heap.size) fC.out.size (fun b hb=>by have:=HO.out;rcases hb with rfl | rfl <;> omega));have lq:=HF.out.1.gs ri;have e9:=lhd (aiq aC (aiq cO (aiq mH (aiq mL (aiq aR lq)))));clear aC cO mH mL ri aR lq HR;have yZ:((∃ p∈ps,yp K hi p.1)->j8 K ps=43)/\((¬ ∃ p∈ps,yp K hi p.1)->j8 K ps=0):=by unfold j8;rw[show (fun _=>0:Int->Int)=zz from rfl,e9.out.1];exact⟨fun h=>if_pos h,fun h=>if_neg h⟩
   have bJ:opE (l.map Ce.cl) ps=j8 K ps:=by unfold opE;rw[HK.out,if_pos rfl,<-oO.out.1]
   have HE:=lhd (aiq yZ bJ);clear yZ bJ;go_wp2_with fail;go_loopw [60] (fun i wr=>∃ j:Nat,i = .int .i64 j/\j<=k/\Hid (∀ p∈ps.take j,¬ yp K hi p.1)/\BwQ wo wr) (fun i _=>k - (vI i).toNat)
   case atStart=>exact⟨0,rfl,go _,(show Hid _ from fun p hp=>by rw[List.take_zero] at hp;cases hp),Below.refl _ _⟩
   case round =>
    obtain⟨j,rfl,hj,HN,lP⟩:=hrel;by_cases jX:j < k
    ·obtain⟨ad,rfl⟩:=sadq HP.out.2.1 (by omega)
     obtain⟨⟨x,y⟩,ht⟩ : ∃ t,ps[j]? = some t:=⟨_,g8 (by rw[HP.out.1];exact jX)⟩
     obtain⟨e0,e1⟩:=kv ps j _ ht;have aP:BwQ w wr:=(btr e9.out.2.2.2.2.1 lP);have d0:wr.cell? (ad.add (j*2))=some (.int .i64 x):=Cx.q8 aP (HP.out.2.2 ad rfl _ _ e0);have d1:wr.cell? ⟨(ad.add (j*2)).block,(ad.add (j*2)).off+1,none⟩=some (.int .i64 y):=by rw[qi _ _ _ (by omega)];exact Cx.q8 aP (HP.out.2.2 ad rfl _ _ e1)
     have HT:=lhd (aiq ht (aiq lP aP));clear e0 e1 ht lP aP;go_wp2_with fail;obtain⟨V,hV⟩ : ∃ V:World,V=wr.alloc (.cells #[.int .i64 x,.int .i64 y] 50):=⟨_,rfl⟩
     rw[<-hV];have aN:BwQ wr V:=by rw[hV];exact bal wr _
     clear hV d0 d1;obtain⟨aC,cO,mH,mL,aR,lq⟩:=e9.out;obtain⟨ht,lP,aP⟩:=HT.out;have vY:BwQ wo V:=(btr lP aN);have cG:=gh ht;obtain⟨ig,ey⟩:=(yl HG.out ps zz zz (hi,lo) aC).2 _ cG;have ig:hi x=y:=ig;have ey:y≠0:=ey;have ao:(j6 (mm.map Ce.cl)).length<=1000000000:=by rw[oO.out.2];have h1:=q4r HG.out.few;have h2:=HG.out.len;unfold j6;omega
     have Bu:=qax (lq.q8 vY) HF.out.2.2 HF.out.2.1 (mH.q8 vY) (fun d hd=>by rw[oO.out.2];exact q92 (cO.sg d hd)) x (by rw[ig];exact ey) (HA.out.2.2.2 _ cG).1 ao;rw[oO.out.2] at Bu;have Mc:=lhd Bu;have HV:=lhd vY;clear Bu aC cO mH mL aR lq ht lP aP aN vY cG ig ey ao;refine Mc.out.mono ?_;rintro e w5 ⟨q,rfl,hq,cU⟩;have HQ:=lhd hq;have vZ:=lhd ((btr HV.out cU));clear hq cU;cases q with
     | true =>go_wp2_with fail;go_ret2;have cW:=e9.out.2.2.2.2.1;refine⟨(btr cW vZ.out),.inl ⟨43,by decide,rfl,?_⟩⟩;rw[HE.out.2];exact HE.out.1.1 ⟨_,gh HT.out.1,HQ.out.1 trivial⟩
     | false =>
      go_wp2_with fail;go_roundw
      case measure=>simp[vI];omega
      case rel =>
       refine⟨j+1,qh (by omega),by omega,(show Hid _ from fun p hp=>?_),vZ.out⟩;rw[gq,HT.out.1] at hp;rcases gF.1 hp with hp | hp
       ·exact HN.out p hp
       ·have:p=(x,y):=by simpa using hp
        rw[this];exact fun hc=>absurd (HQ.out.2 hc) (by decide)
    ·have jX:j=k:=by omega
     subst jX;have II:=lhd lP;clear lP;go_wp2_with fail;go_ret2;obtain⟨aC,cO,mH,mL,aR,lq⟩:=e9.out;have et:¬ ∃ p∈ps,yp K hi p.1:=fun ⟨p,hp,hc⟩=>by refine HN.out p ?_ hc;rw[gm (by rw[HP.out.1];exact nlr _)];exact hp
     have hz:j8 K ps=0:=HE.out.1.2 et;refine⟨(btr aR II.out),.inr ⟨by rw[HE.out.2];exact hz,HK.out,T,rfl,⟨BS,BH,BL,nb,a2,n2,c2,mm,hi,lo,lq.q8 II.out,oO.out.2.trans oO.out.1,HF.out.2.1,by rw[HP.out.1];exact mH.q8 II.out,by rw[HP.out.1];exact mL.q8 II.out,?_,?_,fun a ha=>?_,HO.out.1,HO.out.2.1,HO.out.2.2.1,HO.out.2.2.2⟩⟩⟩
     ·rw[<-oO.out.1];exact aC
     ·rw[<-oO.out.1];exact cO
     ·rw[<-oO.out.1] at ha;rcases q0e ps zz zz (hi,lo) aC a (q46 HG.out ha) with h1 | ⟨p,hp,rfl⟩
      ·exact absurd rfl h1
      ·exact et ⟨p,hp,ha⟩
theorem qiw (w:World) (r:Option Nat):(Go.binOp .eql 122 (.map r) (.map none)).run Tryz.prog w = .ok (.bool r.isNone) w:=run_eql_map_nil w _ _ _ r Tryz.underlying122
attribute [local go_sem ↓] Go.wp_at_zero Go.wp_at_succ
theorem qix (t:Tm) (bk T BH n1:Nat) (hi:Int->Int) (w:World) (hc:w.cell? ⟨bk,0,none⟩=some (.pointer (some ⟨T,0,none⟩))) (q2:w.cell? ⟨T,2,none⟩=some (.map (some BH))) (hh:MpI w BH n1 hi) (ht:I64 t.c) :
  Calls Tryz.prog 162 #[Tm.v t,.pointer (some ⟨bk,0,none⟩)] w fun e w'=>e = .returned (.bool (hi t.c != 0))/\BwQ w w':=by
 obtain⟨W,hW⟩ : ∃ W,W=w.alloc (.cells #[.int .i64 t.c,.bool t.n,.string t.m] 71):=⟨_,rfl⟩
 have hB:BwQ w W:=by rw[hW];exact bal w _
 have h1:=Cx.q8 hB hc;have h2:=Cx.q8 hB q2;have h3:(Instr.lookup 122 (.map (some BH)) (.int .i64 t.c) false).run Tryz.prog W.drew = .ok (.int .i64 (hi t.c)) W.drew:=(hh.q8 (qb hB 1)).look ht;have h4:W.cell? ⟨w.heap.size,0,none⟩=some (.int .i64 t.c):=by rw[hW];exact qd w _ _ (0,0) 0
 have HB:=lhd hB;clear hc q2 hh ht hB;unfold Tm.v;go_enter Tryz.func162,Tryz.ntmps162;go_upto_region 1 with fail;rw[<-hW];clear hW
 go_still (by kernel_rfl)
 go_wp2;go_ret;exact⟨rfl,qb HB.out 1⟩
theorem qlu (t:Tm) (bk T BS:Nat) (nb:Int->Nat) (K:List Cl) (w:World) (hc:w.cell? ⟨bk,0,none⟩=some (.pointer (some ⟨T,0,none⟩))) (q1:w.cell? ⟨T,1,none⟩=some (.map (some BS))) (hh:Sds w BS nb K) (ht:I64 t.c) :
  Calls Tryz.prog 164 #[Tm.v t,.pointer (some ⟨bk,0,none⟩)] w fun e w'=>e = .returned (.bool (!jv K t.c))/\BwQ w w':=by
 obtain⟨W,hW⟩ : ∃ W,W=w.alloc (.cells #[.int .i64 t.c,.bool t.n,.string t.m] 71):=⟨_,rfl⟩
 have hB:BwQ w W:=by rw[hW];exact bal w _
 have h1:=Cx.q8 hB hc;have h2:=Cx.q8 hB q1;have h3:=q29 W.drew (Sds.q8 hh (qb hB 1)).top ht;have h4:W.cell? ⟨w.heap.size,0,none⟩=some (.int .i64 t.c):=by rw[hW];exact qd w _ _ (0,0) 0
 have HB:=lhd hB;clear hc q1 hh ht hB;unfold Tm.v;have qe:∀ (w:World) (r:Option Nat),(Go.binOp .eql 122 (.map r) (.map none)).run Tryz.prog w = .ok (.bool r.isNone) w:=qiw;obtain⟨q,hq⟩ : ∃ q,q=jv K t.c:=⟨_,rfl⟩
 rw[<-hq] at h3 ⊢;clear hq;cases q with
 | true =>
  rw[if_pos rfl] at h3;go_enter Tryz.func164,Tryz.ntmps164;go_upto_region 1 with fail;rw[<-hW];clear hW
  go_still (by kernel_rfl)
  go_wp2;go_ret;exact⟨rfl,qb HB.out 1⟩
 | false =>
  rw[if_neg (by simp)] at h3;go_enter Tryz.func164,Tryz.ntmps164;go_upto_region 1 with fail;rw[<-hW];clear hW
  go_still (by kernel_rfl)
  go_wp2;go_ret;exact⟨rfl,qb HB.out 1⟩
theorem qlv (t:Tm) (bk T BH BL n1 n2:Nat) (hi lo:Int->Int) (w:World) (hc:w.cell? ⟨bk,0,none⟩=some (.pointer (some ⟨T,0,none⟩))) (q2:w.cell? ⟨T,2,none⟩=some (.map (some BH))) (q3:w.cell? ⟨T,3,none⟩=some (.map (some BL))) (hh:MpI w BH n1 hi) (hl:MpI w BL n2 lo) (ht:I64 t.c) :
  Calls Tryz.prog 165 #[Tm.v t,.pointer (some ⟨bk,0,none⟩)] w fun e w'=>e = .returned (.bool (pdB hi lo t.c))/\BwQ w w':=by
 have hB:BwQ w (w.alloc (.cells #[.int .i64 t.c,.bool t.n,.string t.m] 71)):=bal w _;have h1:=Cx.q8 hB hc;have af:=q2a T BH BL n1 n2 hi lo t.c _ (Cx.q8 hB q2) (Cx.q8 hB q3) (hh.q8 hB) (hl.q8 hB) ht;have HC:=lhd af;have HB:=lhd hB;clear hc q2 q3 hh hl ht hB af;unfold Tm.v;go_enter Tryz.func165,Tryz.ntmps165;go_wp2_with fail;refine HC.out.mono ?_;rintro e w2 ⟨rfl,rfl⟩;go_wp2;go_ret;exact⟨rfl,HB.out⟩
end Go.Proofs.YtlhicnfeajejhaaGreatDoor
namespace Go.Cx
theorem qbe {R:Nat->Prop} (h:∃ k,R k):∃ k,R k/\∀ j,R j->k<=j:=by
 obtain⟨k,hk⟩:=h;induction k using Nat.strongRecOn with
 | _ k ih =>
  by_cases h:∃ j,j < k/\R j
  ·obtain⟨j,hj,hr⟩:=h;exact ih j hj hr
  ·refine⟨k,hk,fun j hj=>?_⟩;apply be;intro hn;exact h ⟨j,by omega,hj⟩
open Classical in
noncomputable def least (R:Nat->Prop):Nat:=if h:∃ k,R k then (qbe h).choose else 0
theorem q6t {R:Nat->Prop} (h:∃ k,R k):R (least R)/\∀ j,R j->least R<=j:=by unfold least;rw[dif_pos h];exact(qbe h).choose_spec
theorem qiy {R R':Nat->Prop} {k:Nat} (h:least R=k+1) (h':R' k):least R' < least R:=by have:=(q6t ⟨k,h'⟩).2 k h';omega
theorem qeh {L U:List Int} (h:L.Nodup) (hs:∀ x∈L,x∈U):L.length<=U.length:=by
 induction L generalizing U with
 | nil=>exact go _
 | cons a L ih =>
  obtain⟨h1,h2⟩:=List.nodup_cons.1 h;have ha:=hs a (by simp);have:=ih (U:=U.erase a) h2 fun x hx=>(List.mem_erase_of_ne (fun e:x=a=>h1 (e ▸ hx))).2 (hs x (by simp[hx]))
  rw[List.length_erase_of_mem ha] at this;have hp:=List.length_pos_of_mem ha;rw[gy];omega
theorem q6u {K:List Cl} {L:List (Int×Int)} (h:Cn L) (hi:In0 K (co L)):L.length<=K.length:=by
 have h1:(L.map Prod.fst).Nodup:=by unfold List.Nodup;rw[List.pairwise_map];exact h.1.imp fun hl e=>by omega
 have:=qeh (U:=K.map Cl.id) h1 fun x hx=>by obtain⟨p,hp,rfl⟩:=gr.1 hx;exact hi p.1 (by rw[zl h.1 hp];exact h.2 p hp)
 simpa using this
end Go.Cx
namespace Go.Proofs.YtlhicnfeajejhaaGreatDoor
open Go.Cx Go.RowKit
theorem q4s {K:List Cl} {mm:List Ce} (hK:mm.map Ce.cl=K) (cH:COk mm) {d:Int} (h:d∈K.map Cl.id):I64 d:=by obtain⟨x,hx,rfl⟩:=gr.1 h;rw[<-hK] at hx;obtain⟨y,hy,rfl⟩:=gr.1 hx;exact(cH y hy).1.1
theorem q9i {K:List Cl} {mm:List Ce} (hK:mm.map Ce.cl=K) (cH:COk mm) {L:List (Int×Int)} (h:Cn L) (hi:In0 K (co L)) {S:Nat} (hS:∀ d,nb (co L d)<=S):TOk S (ctm L):=LOk.tok fun p hp=>by have:=zl h.1 hp;exact⟨q4s hK cH (hi p.1 (by rw[this];exact h.2 p hp)),by rw[<-this];exact hS p.1⟩
theorem q6v {K:List Cl} (G:Cx.Good K):(z8 K).length<=256000:=by
 have key:∀ M:List Cl,(∀ x∈M,x.s.length<=64)->(z8 M).length<=M.length*64:=fun M=>by
  induction M with
  | nil=>intro _;simp[z8]
  | cons x M ih =>
   intro h;have h1:=h x (by simp);have h2:=ih fun y hy=>h y (by simp[hy])
   unfold z8 at h2 ⊢;rw[List.flatMap_cons,gc,gn,gy,Nat.succ_mul];omega
 have:=key K G.few;have:=G.len;omega
theorem q87 {K:List Cl} (G:Cx.Good K) (b a:Int):nb (sgn K b a)<=1:=by
 by_cases h:sgn K b a=0
 ·rw[h,q0g];omega
 ·refine q31 _ _ ?_;rcases G.q2v h with e | e <;> rw[e] <;> decide
theorem qod {K:List Cl} (G:Cx.Good K) (c d:Int):nb (bdD K c 1 d)<=1:=by rw[G.bdD,Int.one_mul];exact q87 G c d
theorem vg (c x:Int):co [(c,x)]=qw c x:=by
 funext d
 show (if c=d then x else 0)+0=_;unfold qw;by_cases h:d=c
 ·rw[if_pos h,if_pos h.symm,bD]
 ·rw[if_neg h,if_neg fun e=>h e.symm,bD]
structure Cst (w0:World) (base:Nat) (K:List Cl) (hi:Int->Int) (Wt:Int->Nat) (B:Nat) (f' h':Int->Int) (k:Nat) (va vh:Value) (wr:World):Prop where
 ex:∃ (La Lh:List (Int×Int)),Clr K hi k (co La) (co Lh) f' h'/\Cn La/\Cn Lh/\wr.ownsRow base 71 3 va La.length (tv (ctm La))/\Sl wr 3 vh (tv (ctm Lh))/\In0 K (co La)/\In0 K (co Lh)/\Ph (K.map Cl.id) Wt (co La)+Ph (K.map Cl.id) (fun _=>1) (co Lh)<=B
 below:BwQ w0 wr
theorem qlw (U:List Int) (W:Int->Nat):Ph U W zz=0:=by
 unfold Ph zz;induction U with
 | nil=>rfl
 | cons a U ih=>rw[gR,bt,ih];simp
theorem qei {w:World} {T BS BH BL n c n1:Nat} {nbf:Int->Nat} {a:Option Addr} {mm:List Ce} {K:List Cl} {hi lo f' h':Int->Int} (hF:Fld w T BS BH BL nbf a n c mm) (hK:mm.map Ce.cl=K) (hG:Cx.Good K) (cH:COk mm) (hM:Mtc K hi lo) (mH:MpI w BH n1 hi) {Wt:Int->Nat} (hW:Wgt K hi Wt)
  (base:Nat) (v:Value) (L:List (Int×Int)) (hv:w.ownsRow base 71 3 v L.length (tv (ctm L))) (hb:base<=w.heap.size) (iG:Cn L) (hIn:In0 K (co L)) (S:Nat) (hS:∀ d,nb (co L d)<=S) (mG:S<=1000000000) (N:Nat) (hC:Clr K hi N (co L) zz f' h') :
  Calls Tryz.prog 111 #[.pointer (some ⟨T,0,none⟩),v] w fun e w'=>∃ r1 r2 L1 L2,e = .returned (.tuple #[r1,r2])/\w'.ownsRow base 71 3 r1 L1.length (tv (ctm L1))/\Cn L1/\co L1=f'/\Sl w' 3 r2 (tv (ctm L2))/\Cn L2/\co L2=h'/\In0 K f'/\In0 K h'/\(∀ d,nb (f' d)<=S+4003/\nb (h' d)<=S+4003)/\BwQ w w':=by
 obtain⟨Zt,Zu,Zv,rfl⟩:=qg (Sl.qc hv);have cw:=qoa hW hS (by have:=hG.len;omega);have hlen:=hG.len;obtain⟨B,vH⟩ : ∃ B,B=Ph (K.map Cl.id) Wt (co L):=⟨_,rfl⟩
 rw[<-vH] at cw;have H0:=lhd (aiq hv (aiq iG (aiq hIn (aiq hC vH))));have HP:=lhd (aiq hF (aiq hK (aiq hG (aiq cH (aiq hM (aiq mH (aiq hW (aiq cw hb))))))));have bound:∀ (La Lh:List (Int×Int)),In0 K (co La)->In0 K (co Lh)->Ph (K.map Cl.id) Wt (co La)+Ph (K.map Cl.id) (fun _=>1) (co Lh)<=B->(∀ d,nb (co La d)<=S+4003)/\∀ d,nb (co Lh d)<=S+4003:=fun La Lh i1 i2 hb=>⟨fun d=>gl (qb9 hW.pos i1 (gl (Nat.le_add_right _ _) hb) cw d) (by omega),fun d=>gl (qb9 (W:=fun _=>1) (fun _=>by omega) i2 (gl (Nat.le_add_left _ _) hb) cw d) (by omega)⟩
 have zA:=lhd bound;clear hv iG hIn hC vH hF hK hG cH hM mH hW cw hb hS bound hlen;go_enter Tryz.func111,Tryz.ntmps111;go_wp2_with fail;obtain⟨W,hW⟩ : ∃ W:World,W=w.alloc (.cells #[.pointer (some ⟨T,0,none⟩)] 118):=⟨_,rfl⟩
 have bI:BwQ w W:=by rw[hW];exact bal w _
 have kb:W.cell? ⟨w.heap.size,0,none⟩=some (.pointer (some ⟨T,0,none⟩)):=by rw[hW];exact qd w #[.pointer (some ⟨T,0,none⟩)] 118 (0,0) 0
 obtain⟨bk,uO⟩ : ∃ bk,bk=w.heap.size:=⟨_,rfl⟩
 rw[<-uO] at kb ⊢;rw[<-hW];have HW:=lhd (aiq bI (aiq kb uO));clear bI kb hW uO;go_loopw [1,5] (fun va vh wr=>∃ k,Cst W base K hi Wt B f' h' k va vh wr) (fun va vh wr=>least (fun k=>Cst W base K hi Wt B f' h' k va vh wr))
 case atStart =>obtain⟨h1,h2,h3,h4,h5⟩:=H0.out;exact⟨N,⟨L,[],h4,h2,Cn.nil,qa h1 HW.out.1,Sl.nil _ _,h3,fun d hd=>absurd rfl hd,by rw[h5];exact Nat.le_of_eq (by rw[show co ([] : List (Int×Int))=zz from rfl,qlw,Nat.add_zero])⟩,Below.refl _ _⟩
 case round =>
  have az:=(q6t hrel).1;obtain⟨kk,px⟩ : ∃ kk,kk=least (fun k=>Cst W base K hi Wt B f' h' k u1 u5 wr):=⟨_,rfl⟩
  rw[<-px] at az;obtain⟨⟨La,Lh,h1,h2,h3,h4,h5,h6,h7,h8⟩,aR⟩:=az;have oO:=lhd px;clear px hrel;obtain⟨oQ,eU,oR,rfl⟩:=qg (Sl.qc h4);obtain⟨WE,QU,QV,rfl⟩:=qg h5;have fld:∀ U,BwQ W U->BwQ w U/\U.cell? ⟨bk,0,none⟩=some (.pointer (some ⟨T,0,none⟩))/\Fld U T BS BH BL nbf a n c mm/\MpI U BH n1 hi:=fun U hU=>by have ej:BwQ w U:=(btr HW.out.1 hU);exact⟨ej,Cx.q8 hU HW.out.2.1,HP.out.1.q8 ej,HP.out.2.2.2.2.2.1.q8 ej⟩
  have iH:∀ t∈ctm La,I64 t.c:=fun t ht=>by obtain⟨p,hp,rfl⟩:=gr.1 ht;exact q4s HP.out.2.1 HP.out.2.2.2.1 (h6 p.1 (by rw[zl h2.1 hp];exact h2.2 p hp))
  have jK:=qii (.slice oQ eU oR) (ctm La) 162 #[.pointer (some ⟨bk,0,none⟩)] (fun t=>hi t.c != 0) wr (Sl.qc h4) Tryz.call162 (fun U hU t ht=>by obtain⟨_,k2,k3,k4⟩:=fld U ((btr aR hU));exact qix t bk T BH n1 hi U k2 k3.t2 k4 (iH t ht))
  have FE:=lhd jK;have Da:=lhd fld;have kG:=lhd (aiq h1 (aiq h2 (aiq h3 (aiq h4 (aiq h5 (aiq h6 (aiq h7 (aiq h8 (aiq aR iH)))))))));clear jK fld h1 h2 h3 h4 h5 h6 h7 h8 aR iH;go_wp2_with fail;refine FE.out.mono ?_;rintro e w2 ⟨i,rfl,WG,aj⟩;have bG:=lhd (aiq ((btr kG.out.2.2.2.2.2.2.2.2.1 aj)) aj);clear aj FE;rcases WG with ⟨rfl,et⟩ | ⟨j,t,rfl,hj,pZ,fO⟩
  ·have yO:=lhd et;clear et;go_wp2_with fail;go_ret2;obtain⟨h1,h2,h3,h4,h5,h6,h7,h8,aR,iH⟩:=kG.out;obtain⟨e1,e2⟩:=qlp h1 fun q hq=>by have:=yO.out _ (gG (f:=fun p:Int×Int=>(⟨p.1,decide (p.2 < 0),mg p.2⟩ : Tm)) hq);simpa using this
   obtain⟨b1,b2⟩:=zA.out La Lh h6 h7 h8;refine⟨_,_,La,Lh,rfl,qa h4 bG.out.2,h2,e1.symm,h5.q8 bG.out.2,h3,e2.symm,e1 ▸ h6,e2 ▸ h7,fun d=>by rw[e1,e2];exact⟨b1 d,b2 d⟩,(btr HW.out.1 bG.out.1)⟩
  ·obtain⟨⟨c0,x0⟩,hp,rfl⟩ : ∃ p,La[j]? = some p/\t=⟨p.1,decide (p.2 < 0),mg p.2⟩:=by unfold ctm at hj;rw[List.getElem?_map] at hj;obtain⟨p,hp,he⟩:=Option.map_eq_some_iff.1 hj;exact⟨p,hp,he.symm⟩
   have fD:hi c0≠0:=by simpa using pZ
   obtain⟨h1,h2,h3,h4,h5,h6,h7,h8,aR,iH⟩:=kG.out;obtain⟨m,hm,fl⟩:=qfv h1 h2 hp fD (fun q hq=>by
    have:=fO ⟨q.1,decide (q.2 < 0),mg q.2⟩ (by show _∈(La.map _).take j;rw[<-List.map_take];exact gG (f:=fun p:Int×Int=>(⟨p.1,decide (p.2 < 0),mg p.2⟩ : Tm)) hq)
    simpa using this)
   obtain⟨hF,hK,hG,cH,hM,mH,lM,cw,ae⟩:=HP.out;have bK:co La c0=x0:=zl h2.1 (gh hp);have jD:co La c0≠0:=by rw[bK];exact h2.2 _ (gh hp)
   have Bq:=h6 c0 jD;have fp:I64 c0:=q4s hK cH Bq;have l6:=hM.sg c0 fD;have hh:=q92 l6;obtain⟨hv,iZ⟩ : ∃ hv,hv=hi c0:=⟨_,rfl⟩
   have lu:I64 hv:=by
    rw[iZ];obtain⟨y,hy,he⟩:=List.any_eq_true.1 hh;have he:y.id=hi c0:=by simpa using he
    rw[<-he];exact q4s hK cH (gG hy)
   obtain⟨sg,bX⟩ : ∃ sg,sg=sgn K hv c0:=⟨_,rfl⟩
   have fq:sg=1\/sg = -1:=by rw[bX,iZ];exact hG.q2v l6
   have Md:=(Sl.qc h4).q8 bG.out.2;obtain⟨Zw,n0,WH,wa,g1,g2,g3,g4,g5⟩:=Md;cases wa
   rw[z6,qz] at g3;have dS:j < La.length:=(ge.1 hp).1;obtain⟨ad,rfl⟩:=sadq g4 (by omega)
   obtain⟨e0,e1,e2⟩:=jd (ctm La) j ⟨c0,decide (x0 < 0),mg x0⟩ (by unfold ctm;rw[List.getElem?_map,hp];rfl);have d0:w2.cell? (ad.add (j*3))=some (.int .i64 c0):=g5 ad rfl _ _ e0;have d1:w2.cell? ⟨(ad.add (j*3)).block,(ad.add (j*3)).off+1,none⟩=some (.bool (decide (x0 < 0))):=by rw[qi _ _ _ (by omega)];exact g5 ad rfl _ _ e1
   have d2:w2.cell? ⟨(ad.add (j*3)).block,(ad.add (j*3)).off+2,none⟩=some (.string (mg x0)):=by rw[qi _ _ _ (by omega)];exact g5 ad rfl _ _ e2
   obtain⟨dn,Me,eL,we⟩:=Da.out w2 bG.out.1;have ur:(j:Int) < eU:=by omega
   have hj0:¬ (j:Int) < 0:=by omega
   have C6:(0:Int)<=j:=by omega
   have l0:(Instr.lookup 122 (.map (some BH)) (.int .i64 c0) false).run Tryz.prog w2.drew = .ok (.int .i64 hv) w2.drew:=by rw[iZ];exact(we.q8 (qb (Below.refl _ w2) 1)).look fp
   have t2:=eL.t2;have QW:∀ U,BwQ w2 U->U.cell? ⟨bk,0,none⟩=some (.pointer (some ⟨T,0,none⟩))/\U.cell? ⟨T,1,none⟩=some (.map (some BS))/\U.cell? (ad.add (j*3))=some (.int .i64 c0) ∧
     (Instr.lookup 121 (.map (some BS)) (.int .i64 hv) false).run Tryz.prog U = .ok (.map (some (nbf hv))) U/\(Instr.lookup 122 (.map (some (nbf hv))) (.int .i64 c0) false).run Tryz.prog U = .ok (.int .i64 sg) U:=fun U hU=>by
    have f:=eL.q8 hU;have a1:=q29 U f.sid.top lu;have a2:=q7x (by rw[hK];exact hG.asc) f.sid.each hv fp;have WI:jv (mm.map Ce.cl) hv=true:=by rw[hK,iZ];exact hh
    rw[WI,if_pos rfl] at a1 a2;rw[hK,<-bX] at a2;exact⟨Cx.q8 hU Me,f.t1,Cx.q8 hU d0,a1,a2⟩
   have Db:=lhd QW;have HX:=lhd (aiq hm (aiq fl (aiq bK (aiq iZ (aiq bX (aiq fq (aiq lu (aiq fp (aiq dn (aiq eL (aiq dS (aiq fD jD))))))))))));have HD:=lhd (aiq d0 (aiq d1 d2));clear fD h1 h2 h3 h4 h5 h6 h7 h8 aR iH hm fl hF hK hG cH hM mH lM cw ae bK jD Bq fp l6 hh iZ lu bX fq g3 g4 g5 dS e0 e1 e2 dn eL we QW hp pZ fO hj d1 d2;go_upto_region 4 with fail
   go_still (by kernel_rfl)
   show Exit.then _ _ _ _ w2.drew;obtain⟨w5,FF⟩ : ∃ w5,w5=w2.drew:=⟨_,rfl⟩
   have B5:BwQ w2 w5.drew:=by rw[FF];exact qb (Below.refl _ w2) 2
   rw[<-FF];clear l0 t2 d0 FF;have ux:IntKind.i64.wrap (-sg) = -sg:=by rcases HX.out.2.2.2.2.2.1 with h | h <;> rw[h] <;> decide
   have n1 : -9223372036854775808<=-sg:=by rcases HX.out.2.2.2.2.2.1 with h | h <;> omega
   have n2 : -sg<=9223372036854775807:=by rcases HX.out.2.2.2.2.2.1 with h | h <;> omega
   have b5:Bx (w5.drew.alloc (.cells #[.bool false,.string ⟨#[]⟩] 38)) w5.heap.size false ⟨#[]⟩:=Bx.new w5.drew _ _ _;obtain⟨x1,x2,x3,x4⟩:=b5;go_upto_region 5 with fail
   go_cut [8] from 27 to 40 (fun p wx=>∃ p8,p=Value.pointer (some ⟨p8,0,none⟩)/\Bx wx p8 (decide (0 < sg)) (mg (-sg))/\BwQ w2 wx)
   case first =>
    rename_i Jx Kx LR LS
    go_region_held_law (fun U=>U.cell? ⟨bk,0,none⟩=some (.pointer (some ⟨T,0,none⟩))/\U.cell? ⟨T,1,none⟩=some (.map (some BS))/\U.cell? (ad.add (j*3))=some (.int .i64 c0) ∧
      (Instr.lookup 121 (.map (some BS)) (.int .i64 hv) false).run Tryz.prog U = .ok (.map (some (nbf hv))) U/\(Instr.lookup 122 (.map (some (nbf hv))) (.int .i64 c0) false).run Tryz.prog U = .ok (.int .i64 sg) U)
     (first | exact Db.out _ B5 | exact Db.out _ (B5.alloc B5.size _) | exact Db.out _ B6 | exact Db.out _ (B6.alloc B6.size _) | exact Db.out _ ((B6.setCell (show w2.heap.size<=w5.heap.size from B5.size) _).setCell (show w2.heap.size<=w5.heap.size from B5.size) _) | exact Db.out _ (((B6.alloc B6.size _).setCell (show w2.heap.size<=w6.heap.size from B6.size) _).setCell (show w2.heap.size<=w6.heap.size from B6.size) _) | fail)
     (first | (go_at_call 89;refine(qgv (-sg) _ n1 n2).mono ?_;rintro e w6 ⟨rfl,ff⟩;have B6:BwQ w2 w6:=(by first | exact (btr B5 ff) | exact(B5.alloc B5.size _).trans (ff.mono (B5.alloc B5.size _).size));first | (have y1:=Cx.q8 ff x1;have y2:=Cx.q8 ff x2;have y3:=qv ff (by simp) x3;have y4:=qv ff (by simp) x4) | skip))
    all_goals
     ((try go_step);refine LS _ _ (Met.intro ?_);refine LR _ _ ?_;(repeat apply Exists.intro);refine⟨?rel,rfl⟩)
     case rel=>first | exact⟨_,rfl,Bx.new w6 _ _ _,B6.alloc B6.size _⟩ | exact⟨_,rfl,Bx.put (w:=w6) (b:=w5.heap.size) ⟨y1,y2,y3,y4⟩ (decide (0 < sg)) (mg (-sg)),q78 B6 (show w2.heap.size<=w5.heap.size from B5.size) _ _⟩
   case rest =>
    obtain⟨p8,rfl,im,oi⟩:=hcut;obtain⟨QX,QY,_,_⟩:=im;obtain⟨d0,d1,d2⟩:=HD.out
    replace d1:=Cx.q8 oi d1
    replace d2:=Cx.q8 oi d2
    obtain⟨hm,fl,bK,iZ,bX,fq,lu,fp,dn,eL,dS,fD,jD⟩:=HX.out;obtain⟨h1,h2,h3,h4,h5,h6,h7,h8,aR,iH⟩:=kG.out;obtain⟨b1,b2⟩:=zA.out La Lh h6 h7 h8;obtain⟨y,hy⟩ : ∃ y,y = -sg*x0:=⟨_,rfl⟩
    have mR:nb x0<=S+4003:=by rw[<-bK];exact b1 c0
    have pQ:nb y<=S+4003:=by
     rw[hy];rcases fq with h | h <;> rw[h]
     ·rw[show -1*x0 = -x0 by omega,qmt];exact mR
     ·rw[show -(-1)*x0=x0 by omega];exact mR
    have hmul:∀ U,Calls Tryz.prog 88 #[.agg #[.bool (decide (0 < sg)),.string (mg (-sg))],.agg #[.bool (decide (x0 < 0)),.string (mg x0)]] U fun e w'=>e = .returned (wv y)/\BwQ U w':=fun U=>by
     have h1:(mg (-sg)).size<=1099511627775:=by rw[j5];have:nb (-sg)<=1:=q31 _ _ (by rcases fq with h | h <;> rw[h] <;> decide);omega
     have:=qmh (decide (-sg < 0)) (decide (x0 < 0)) (mg (-sg)) (mg x0) U h1 (by rw[j5];omega);rw[q0i,q0i,<-hy] at this;rw[show decide (0 < sg)=decide (-sg < 0) from decide_eq_decide.2 (by omega)];exact this
    have Mf:=lhd hmul;have oS:BwQ W wc:=(btr bG.out.1 oi);have HY:=lhd (aiq hy (aiq pQ (aiq oS oi)));have Mg:Hid (∀ U,BwQ wc U->U.cell? ⟨p8,0,none⟩=some (.bool (decide (0 < sg)))/\U.cell? ⟨p8,1,none⟩=some (.string (mg (-sg)))/\U.cell? ⟨(ad.add (j*3)).block,(ad.add (j*3)).off+1,none⟩=some (.bool (decide (x0 < 0)))/\U.cell? ⟨(ad.add (j*3)).block,(ad.add (j*3)).off+2,none⟩=some (.string (mg x0))):=fun U hU=>⟨Cx.q8 hU QX,Cx.q8 hU QY,Cx.q8 hU d1,Cx.q8 hU d2⟩
    have B6:BwQ wc wc.drew:=qb (Below.refl _ wc) 1;clear hm fl bK iZ bX fq lu fp dn eL dS fD jD h1 h2 h3 h4 h5 h6 h7 h8 aR iH b1 b2 hy mR pQ hmul oS oi QX QY d1 d2 d0 n1 n2 ux B5 x1 x2 x3 x4;go_upto_region 6 with fail
    go_region_held_law (fun U=>U.cell? ⟨p8,0,none⟩=some (.bool (decide (0 < sg)))/\U.cell? ⟨p8,1,none⟩=some (.string (mg (-sg)))/\U.cell? ⟨(ad.add (j*3)).block,(ad.add (j*3)).off+1,none⟩=some (.bool (decide (x0 < 0)))/\U.cell? ⟨(ad.add (j*3)).block,(ad.add (j*3)).off+2,none⟩=some (.string (mg x0)))
     (first | exact Mg.out _ B6 | exact Mg.out _ B7 | exact Mg.out _ (B7.alloc B7.size _) | fail)
     (first | (go_at_call 88;refine(Mf.out _).mono ?_;rintro e w7 ⟨rfl,mE⟩;have B7:BwQ wc w7:=(btr B6 mE)))
    have hs:=q13 w7 71 3 [.int .i64 hv,.bool (decide (y < 0)),.string (mg y)] 1 rfl (by unfold maxLen;omega);obtain⟨w8,rk⟩ : ∃ w8,w8=w7.alloc (.cells #[.int .i64 hv,.bool (decide (y < 0)),.string (mg y)] 71):=⟨_,rfl⟩
    have hs:Sl w8 3 (.slice (some ⟨w7.heap.size,0,none⟩) 1 1) (tv (ctm [(hv,y)])):=by rw[rk];exact hs
    have B8:BwQ wc w8:=by rw[rk];exact B7.alloc B7.size _
    rw[<-rk];obtain⟨hm,fl,bK,iZ,bX,fq,lu,fp,dn,eL,dS,fD,jD⟩:=HX.out;obtain⟨h1,h2,h3,h4,h5,h6,h7,h8,aR,iH⟩:=kG.out;obtain⟨hF,hK,hG,cH,hM,mH,lM,cw,ae⟩:=HP.out;obtain⟨b1,b2⟩:=zA.out La Lh h6 h7 h8;obtain⟨hy,pQ,oS,oi⟩:=HY.out;have Dc:BwQ W w8:=(btr oS B8);have Mh:BwQ wr w8:=bG.out.2.trans (((btr oi B8)).mono bG.out.2.size);have FG:=h5.q8 Mh;have FH:=(Sl.qc h4).q8 Mh;have cp:TOk (S+4003) (ctm Lh):=q9i hK cH h3 h7 b2;have jO:TOk (S+4003) (ctm [(hv,y)]):=LOk.tok fun p hp=>by
     have:p=(hv,y):=by simpa using hp
     rw[this];exact⟨lu,pQ⟩
    have tu:TOk (S+4003) (ctm La):=q9i hK cH h2 h6 b1;have FI:=q6u h2 h6;have FJ:=q6u h3 h7;have fQ:=hG.len;have fs:(zk mm).length<=256000:=by rw[q2q,hK];exact q6v hG
    have HZ:=lhd (aiq hs (aiq Dc (aiq FG (aiq FH (aiq cp (aiq jO (aiq tu (aiq FI (aiq FJ (aiq fQ fs))))))))));clear hm fl bK iZ bX fq lu fp dn eL dS fD jD h1 h2 h3 h4 h5 h6 h7 h8 aR iH hF hK hG cH hM mH lM cw ae b1 b2 hy pQ oS oi hs Dc Mh FG FH cp jO tu FI FJ fQ fs rk B8 B7 mE B6;go_wp2_with fail;refine(qbw _ _ (ctm Lh) (ctm [(hv,y)]) (S+4003) w8 HZ.out.2.2.1 HZ.out.1 HZ.out.2.2.2.2.1 HZ.out.2.2.2.2.2.1 (by rw[qz,qz];have:=HZ.out.2.2.2.2.2.2.2.2;show _+_+1<=_;omega)).mono ?_;rintro e w9 ⟨r9,rfl,⟨FK,wg,wh,Mi,eo⟩,lS⟩;obtain⟨v9,n9,c9,rfl⟩:=qg (Sl.qc eo);have rQ:BwQ W w9:=(btr HZ.out.2.1 lS);obtain⟨_,Zx,IJ,_⟩:=Da.out w9 rQ;have yU:=IJ.t0;have HN:=lhd (aiq wg (aiq wh (aiq eo (aiq lS (aiq rQ IJ)))));clear wg wh Mi eo lS rQ IJ;go_wp2_with fail;refine(q5y _ mm _ (ctm [(hv,y)]) (S+4003) w9 HN.out.2.2.2.2.2.row HP.out.2.2.2.1 (HZ.out.1.q8 HN.out.2.2.2.1) HZ.out.2.2.2.2.2.1 (by rw[qz];have:=HZ.out.2.2.2.2.2.2.2.2;show _+1+_<=_;omega)).mono ?_;rintro e om ⟨WJ,rfl,⟨Lb,oT,tw,Bw,fR⟩,eM⟩;obtain⟨v10,n10,CX,rfl⟩:=qg (Sl.qc fR);have dI:co Lb=bdD K hv y:=funext fun d=>by rw[tw,zv,vg,q2q,HP.out.2.1];rfl
    have oU:In0 K (co Lb):=by rw[dI];exact qcu HP.out.2.2.1 hv y
    have tz:∀ d,nb (co Lb d)<=S+4004:=fun d=>by rw[dI,HP.out.2.2.1.bdD];have h1:=q39 y (sgn K hv d);have h2:=q87 HP.out.2.2.1 hv d;have h3:=HY.out.2.1;omega
    have jP:TOk (S+4004) (ctm Lb):=q9i HP.out.2.1 HP.out.2.2.2.1 oT oU tz;have By:=q6u oT oU;have HT:=lhd (aiq dI (aiq fR (aiq eM (aiq jP By))));clear oT tw Bw fR eM dI oU tz jP By;go_wp2_with fail;have ny:BwQ w8 om:=(btr HN.out.2.2.2.1 HT.out.2.2.1);refine(qbw _ _ (ctm La) (ctm Lb) (S+4004) om (HZ.out.2.2.2.1.q8 ny) (Sl.qc HT.out.2.1) (HZ.out.2.2.2.2.2.2.1.mono (by omega)) HT.out.2.2.2.1 (by rw[qz,qz];have h1:=HZ.out.2.2.2.2.2.2.2;have h2:=HT.out.2.2.2.2;omega)).mono ?_;rintro e pR ⟨WK,rfl,⟨FL,tA,tC,Bz,jQ⟩,eN⟩;obtain⟨v11,n11,uI,rfl⟩:=qg (Sl.qc jQ);have tD:Cst W base K hi Wt B f' h' m (.slice v11 n11 uI) (.slice v9 n9 c9) pR:=by
     obtain⟨hm,fl,bK,iZ,bX,fq,lu,fp,dn,eL,dS,fD,jD⟩:=HX.out;obtain⟨h1,h2,h3,h4,h5,h6,h7,h8,aR,iH⟩:=kG.out;obtain⟨hF,hK,hG,cH,hM,mH,lM,cw,ae⟩:=HP.out;obtain⟨hy,pQ,oS,oi⟩:=HY.out;obtain⟨wg,wh,eo,lS,rQ,IJ⟩:=HN.out;obtain⟨dI,fR,eM,jP,By⟩:=HT.out;have e1:co FL=stF K hi (co La) c0:=funext fun d=>by rw[tC,zv,zv,dI,hy];show _=co La d+bdD K (hi c0) (-(sgn K (hi c0) c0)*co La c0) d;rw[bK,<-iZ,<-bX]
     have e2:co FK=stH K hi (co La) (co Lh) c0:=funext fun d=>by rw[wh,zv,zv,vg,hy];show _=co Lh d+qw (hi c0) (-(sgn K (hi c0) c0)*co La c0) d;rw[bK,<-iZ,<-bX]
     have rl:BwQ W om:=(btr rQ eM);refine⟨⟨FL,FK,?_,tA,wg,qf jQ (gl ae (gl HW.out.1.size rl.size)),(Sl.qc eo).q8 ((btr eM eN)),?_,?_,?_⟩,(btr rl eN)⟩
     ·rw[e1,e2];exact fl
     ·rw[e1];exact qmn hG h6 c0
     ·rw[e2];exact qo8 hG hM h7 fD
     ·rw[e1,e2];exact gl (qlo hG hM lM h6 jD fD) h8
    have tE:=lhd tD;clear tD tA tC Bz jQ eN ny;go_wp2_with fail;go_roundw
    case measure=>exact qiy (oO.out.symm.trans HX.out.1) tE.out
    case rel=>exact⟨_,tE.out⟩
end Go.Proofs.YtlhicnfeajejhaaGreatDoor
