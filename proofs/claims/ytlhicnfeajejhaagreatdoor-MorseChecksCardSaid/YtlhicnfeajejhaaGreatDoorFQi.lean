/- Steps towards MorseChecks. Conditions: none. -/
import Derived.Test.YtlhicnfeajejhaaGreatDoorFQf
import Derived.Test.YtlhicnfeajejhaaGreatDoorFQg
set_option maxRecDepth 1000000
set_option maxHeartbeats 16000000
namespace Go.Proofs.YtlhicnfeajejhaaGreatDoor
open Go.Cx Go.RowKit
theorem MpI.entry {w:World} {b n:Nat} {h:Int->Int} (m:MpI w b n h) {c:Int} (hc:I64 c) (hn:n < maxLen) :
  ∃ (v0:Value) (st:Nat) (w1:World),(Instr.mapEntry 122 (.map (some b)) (.int .i64 c)).run Tryz.prog w = .ok (.tuple #[v0,goInt st]) w1/\w.grownBy w1 (some b) ∧
   ∀ (w2:World) (v:Int),w2.heap[b]? = w1.heap[b]?->∃ w3,(Instr.entryStore 122 (.map (some b)) (goInt st) (.int .i64 v)).run Tryz.prog w2 = .ok () w3/\MpI w3 b (n+1) (pu h c v)/\w2.grownBy w3 (some b):=by
 obtain⟨g,h1,h2⟩:=m;obtain⟨v0,st,w1,e1,e2,e3⟩:=h1.entry Tryz.underlying3 Tryz.underlying122 q40 hn (yx hc);refine⟨v0,st,w1,e1,e2,fun w2 v hb=>?_⟩;obtain⟨w3,f1,f2,f3⟩:=e3 w2 (.int .i64 v) hb;exact⟨w3,f1,MpI.q6j h2 f2,f3⟩
theorem MpI.kept {w w':World} {b n:Nat} {h:Int->Int} {row:Option Nat} (m:MpI w b n h) (hg:w.grownBy w' row) (ak:some b≠row):MpI w' b n h:=by obtain⟨g,h1,h2⟩:=m;exact⟨g,h1.kept hg ak,h2⟩
def qiv (w w':World) (A B nA nB:Nat) (hA hB:Int->Int) (c d u v:Int):Prop:=MpI w' A (nA+1) (pu hA c u)/\MpI w' B (nB+1) (pu hB d v)/\Gs (HL A B) w w'
theorem _root_.Go.Cx.Gs.ent {A B b:Nat} {w w' w'':World} (h:Gs (HL A B) w w') (g:w'.grownBy w'' (some b)) (hb:b=A\/b=B):Gs (HL A B) w w'':=h.grown g (fun k e=>by cases e;exact .inr hb)
def qbc (w:World) (A B:Nat) (c d u v:Int) (G F:World->Prop):Prop :=
  ∃ (vA:Value) (sA:Nat) (w1:World),(Instr.mapEntry 122 (.map (some A)) (.int .i64 c)).run Tryz.prog w = .ok (.tuple #[vA,.int .i64 sA]) w1/\G w1 ∧
   (∃ (w3:World) (vB:Value) (sB:Nat) (w4 w5:World),(Instr.entryStore 122 (.map (some A)) (.int .i64 sA) (.int .i64 u)).run Tryz.prog w1 = .ok () w3/\G w3 ∧
    (Instr.mapEntry 122 (.map (some B)) (.int .i64 d)).run Tryz.prog w3 = .ok (.tuple #[vB,.int .i64 sB]) w4/\G w4 ∧
    (Instr.entryStore 122 (.map (some B)) (.int .i64 sB) (.int .i64 v)).run Tryz.prog w4 = .ok () w5/\F w5) ∧
   (∃ (vB:Value) (sB:Nat) (w4 w5 w6 w7 w8:World),(Instr.mapEntry 122 (.map (some B)) (.int .i64 d)).run Tryz.prog w1 = .ok (.tuple #[vB,.int .i64 sB]) w4/\G w4 ∧
    (Instr.entryStore 122 (.map (some A)) (.int .i64 sA) (.int .i64 u)).run Tryz.prog w4 = .ok () w5/\G w5 ∧
    (Instr.entryStore 122 (.map (some B)) (.int .i64 sB) (.int .i64 v)).run Tryz.prog w5 = .ok () w6/\F w6 ∧
    (Instr.entryStore 122 (.map (some B)) (.int .i64 sB) (.int .i64 v)).run Tryz.prog w4 = .ok () w7/\G w7 ∧
    (Instr.entryStore 122 (.map (some A)) (.int .i64 sA) (.int .i64 u)).run Tryz.prog w7 = .ok () w8/\F w8)
theorem qbc.mono {w:World} {A B:Nat} {c d u v:Int} {G F G' F':World->Prop} (h:qbc w A B c d u v G F) (hG:∀ U,G U->G' U) (hF:∀ U,F U->F' U):qbc w A B c d u v G' F':=by
 obtain⟨vA,sA,w1,a1,a2,⟨w3,vB,sB,w4,w5,b1,b2,b3,b4,b5,b6⟩,vC,sC,x4,x5,x6,x7,x8,c1,c2,c3,c4,c5,c6,c7,c8,c9,Ou⟩:=h;exact⟨vA,sA,w1,a1,hG _ a2,⟨w3,vB,sB,w4,w5,b1,hG _ b2,b3,hG _ b4,b5,hF _ b6⟩,vC,sC,x4,x5,x6,x7,x8,c1,hG _ c2,c3,hG _ c4,c5,hF _ c6,c7,hG _ c8,c9,hF _ Ou⟩
theorem qbd {w:World} {A B nA nB:Nat} {hA hB:Int->Int} (mA:MpI w A nA hA) (mB:MpI w B nB hB) (ak:A≠B) {c d:Int} (u v:Int) (hc:I64 c) (hd:I64 d) (lA:nA < maxLen) (lB:nB < maxLen) :
  qbc w A B c d u v (Gs (HL A B) w) (fun U=>qiv w U A B nA nB hA hB c d u v):=by
 obtain⟨vA,sA,w1,a1,a2,a3⟩:=mA.entry hc lA;have Ww:A < w.heap.size:=mA.lt;have Wx:B < w.heap.size:=mB.lt;have g1:Gs (HL A B) w w1:=(Gs.refl _ w).ent a2 (.inl rfl);have Ov:MpI w1 B nB hB:=mB.kept a2 (fun e=>ak (osi e).symm);have q1n:∀ {x y:World},x.grownBy y (some A)->B < x.heap.size->y.heap[B]? = x.heap[B]?:=fun g hb=>g.block B hb (fun e=>ak (osi e).symm)
 have pV:∀ {x y:World},x.grownBy y (some B)->A < x.heap.size->y.heap[A]? = x.heap[A]?:=fun g ha=>g.block A ha (fun e=>ak (osi e))
 refine⟨vA,sA,w1,a1,g1,?_,?_⟩
 ·obtain⟨w3,b1,b2,b3⟩:=a3 w1 u rfl;have Ty:MpI w3 B nB hB:=Ov.kept b3 (fun e=>ak (osi e).symm);have g3:=g1.ent b3 (.inl rfl);obtain⟨vB,sB,w4,c1,c2,c3⟩:=Ty.entry hd lB;have g4:=g3.ent c2 (.inr rfl);obtain⟨w5,d1,d2,d3⟩:=c3 w4 v rfl;exact⟨w3,vB,sB,w4,w5,b1,g3,c1,g4,d1,(b2.kept c2 (fun e=>ak (osi e))).kept d3 (fun e=>ak (osi e)),d2,g4.ent d3 (.inr rfl)⟩
 ·obtain⟨vB,sB,w4,c1,c2,c3⟩:=Ov.entry hd lB;have g4:=g1.ent c2 (.inr rfl);have s1:=a2.size;have s4:=c2.size;obtain⟨w5,d1,d2,d3⟩:=a3 w4 u (pV c2 (by omega));have g5:=g4.ent d3 (.inl rfl);have s5:=d3.size;obtain⟨w6,e1,e2,e3⟩:=c3 w5 v (q1n d3 (by omega));obtain⟨w7,f1,f2,f3⟩:=c3 w4 v rfl;have g7:=g4.ent f3 (.inr rfl);obtain⟨w8,h1,h2,h3⟩:=a3 w7 u ((pV f3 (by omega)).trans (pV c2 (by omega)));exact⟨vB,sB,w4,w5,w6,w7,w8,c1,g4,d1,g5,e1,⟨d2.kept e3 (fun e=>ak (osi e)),e2,g5.ent e3 (.inr rfl)⟩,f1,g7,h1,h2,f2.kept h3 (fun e=>ak (osi e).symm),g7.ent h3 (.inl rfl)⟩
theorem qeg {w:World} {A B nA nB:Nat} {hA hB:Int->Int} (mA:MpI w A nA hA) (mB:MpI w B nB hB) (ak:A≠B) {c d:Int} (u v:Int) (hc:I64 c) (hd:I64 d) (lA:nA < maxLen) (lB:nB < maxLen) :
  qbc w A B c d u v (Gs (HL A B) w) (fun U=>qiv w U A B nA nB hA hB c d u v)/\qbc w B A d c v u (Gs (HL A B) w) (fun U=>qiv w U A B nA nB hA hB c d u v) :=
 ⟨qbd mA mB ak u v hc hd lA lB,(qbd mB mA (fun e=>ak e.symm) v u hd hc lB lA).mono (fun _ h=>h.mono fun _ _ hb=>hb.symm) fun _ h=>⟨h.2.1,h.1,h.2.2.mono fun _ _ hb=>hb.symm⟩⟩
theorem qfw {mm l:List Ce} (cC:mm.map Ce.cl=canon (l.map Ce.cl)) (hok:COk l):COk mm:=fun x hx=>by
 have hI:=q6m cC hok x hx;refine⟨⟨hI.1,hI.2.1⟩,?_,hI.2.2⟩;have h1:x.cl∈canon (l.map Ce.cl):=by rw[<-cC];exact gE hx
 unfold canon at h1;obtain⟨y,hy,e⟩:=go.1 h1;obtain⟨z,hz,rfl⟩:=go.1 ((q2m _ _).1 hy);have e3:stb Sd.c z.s=x.s:=congrArg Cl.s e;rw[<-e3,qdp];exact(hok z hz).2.1
structure Opn (w w':World) (K:List Cl) (ps:List (Int×Int)) (T:Nat):Prop where
 ex:∃ (BS BH BL:Nat) (nb:Int->Nat) (a:Option Addr) (n c:Nat) (mm:List Ce) (hi lo:Int->Int),Fld w' T BS BH BL nb a n c mm/\mm.map Ce.cl=canon K/\COk mm/\MpI w' BH ps.length hi/\MpI w' BL ps.length lo ∧
  xk (canon K) zz zz ps=some (hi,lo)/\Mtc (canon K) hi lo/\(∀ a,¬ yp (canon K) hi a)/\w.heap.size<=T/\w.heap.size<=BS/\w.heap.size<=BH/\w.heap.size<=BL
theorem q6s (v pvv:Value) (l:List Ce) (ps:List (Int×Int)) (w:World) (h:SlC w v l) (hl:l.length<=1099511627776) (hok:COk l) (hp:Sl w 2 pvv (pv ps)) (hpI:∀ p∈ps,I64 p.1/\I64 p.2) :
  Calls Tryz.prog 98 #[.agg #[v],pvv] w fun e w'=>Below w.heap.size w w' ∧
   ((∃ E:Int,E≠0/\e = .returned (.tuple #[.pointer none,.int .i64 E])/\opE (l.map Ce.cl) ps=E)\/(opE (l.map Ce.cl) ps=0/\chk (l.map Ce.cl)=(0,0)/\∃ T,e = .returned (.tuple #[.pointer (some ⟨T,0,none⟩),.int .i64 0])/\Opn w w' (l.map Ce.cl) ps T)):=by
 obtain⟨a,len,cap,rfl⟩:=qg h.1;obtain⟨a1,dM,fW,rfl,p1,p2,p3,p4,p5⟩:=hp;unfold maxLen at p2;rw[kf] at p3;have cD:ps.length=dM:=by omega
 have HA:=lhd (aiq h (aiq hl (aiq hok hpI)));have HP:=lhd (aiq cD (aiq p4 p5));clear h hl hok hpI p3 p4 p5 cD;go_enter Tryz.func98,Tryz.ntmps98;go_wp2_with fail;obtain⟨W,hW⟩ : ∃ W:World,W=w.alloc (.cells #[.slice a len cap] 26):=⟨_,rfl⟩
 rw[<-hW];have aK:Below w.heap.size w W:=by rw[hW];exact(Below.refl _ w).alloc (nlr _) _
 have kb:W.cell? ⟨w.heap.size,0,none⟩=some (.slice a len cap):=by rw[hW];exact qd w #[.slice a len cap] 26 (0,0) 0
 clear hW;obtain⟨ce,Dh⟩ : ∃ ce,ce=(chk (l.map Ce.cl)).2:=⟨_,rfl⟩
 refine(qlh _ l W (HA.out.1.q8 aK) HA.out.2.1 HA.out.2.2.1).mono ?_;rintro e w1 ⟨rfl,al⟩;rw[<-Dh];have J6:=Cx.q8 al kb;have pU:Below w.heap.size w w1:=aK.trans (al.mono aK.size);have aN:=lhd pU;clear kb pU al aK;by_cases eZ:ce=0
 case neg =>
  have ES:(ce != 0)=true:=by simpa using eZ
  have HC:=lhd (aiq Dh eZ);clear Dh eZ;go_wp2_with fail;go_ret2;exact⟨aN.out,.inl ⟨ce,HC.out.2,rfl,by unfold opE;rw[<-HC.out.1,if_neg HC.out.2]⟩⟩
 have fy:chk (l.map Ce.cl)=(0,0):=qir (Dh.symm.trans eZ);have HK:=lhd fy;clear Dh fy;subst eZ;go_wp2_with fail;refine(q8l _ l w1 (HA.out.1.q8 aN.out) HA.out.2.1 (fun x hx=>(HA.out.2.2.1 x hx).2.1)).mono ?_;rintro e w2 ⟨r,mm,rfl,cC,au,iA,aw⟩;have fN:=Sl.qc au;obtain⟨a2,n2,c2,rfl⟩:=qg fN;have Di:SlC w2 (.slice a2 n2 c2) mm:=⟨fN,fun x hx=>Sl.qc (iA x hx)⟩
 have aF:=lhd (aN.out.trans (aw.mono aN.out.size));have HS:=lhd (aiq Di cC);have hG:Cx.Good (canon (l.map Ce.cl)):=q0d HK.out;have HG:=lhd hG;clear au iA aw fN Di cC J6 hG;go_wp2_with fail;have yD:=qfw HS.out.2 HA.out.2.2.1;have pW:Asc (mm.map Ce.cl):=by rw[HS.out.2];exact HG.out.asc
 refine(qp9 a2 n2 c2 mm w2 HS.out.1 yD pW).mono ?_;rintro e w3 ⟨T,BS,BH,BL,nb,rfl,hF,hH,Ow,l1,l2,l3,l4,aB⟩;have HF:=lhd (aiq hF (aiq yD pW));have HM:=lhd (aiq hH Ow);have pX:=aF.out.trans (aB.mono aF.out.size);have eK:=lhd pX;have fs:w.heap.size<=T/\w.heap.size<=BS/\w.heap.size<=BH/\w.heap.size<=BL:=by have:=aF.out.size;omega
 have HO:=lhd fs;have uW:BH≠BL:=hF.ne.2.2.2.2;have rH:T≠BH/\T≠BL:=⟨hF.ne.1,hF.ne.2.1⟩
 have cC:mm.map Ce.cl=canon (l.map Ce.cl):=HS.out.2;obtain⟨K,hK⟩ : ∃ K,K=canon (l.map Ce.cl):=⟨_,rfl⟩
 rw[<-hK] at HG cC;have nP:=lhd (aiq hK cC);have J8:=lhd (aiq uW rH);clear hF hH Ow yD pW aB pX l1 l2 l3 l4 fs hK cC HS rH uW;go_wp2_with fail;go_loopw [26] (fun i wr=>∃ k:Nat,i = .int .i64 k/\k<=dM/\Hid (∃ hi lo,xk K zz zz (ps.take k)=some (hi,lo)/\Mtc K hi lo/\MpI wr BH k hi/\MpI wr BL k lo/\Gs (HL BH BL) w3 wr)) (fun i _=>dM - (vI i).toNat)
 case atStart=>exact⟨0,rfl,gp _,zz,zz,by rw[List.take_zero,xk],q6p K,HM.out.1,HM.out.2,Gs.refl _ _⟩
 case round =>
  obtain⟨k,rfl,hk,HR⟩:=hrel;by_cases hlt:k < dM
  ·obtain⟨ad,rfl⟩ : ∃ ad,a1=some ad:=by
    cases a1 with
    | none=>have:=HP.out.2.1 rfl;omega
    | some ad=>exact⟨ad,rfl⟩
   obtain⟨⟨x,y⟩,ht⟩ : ∃ t,ps[k]? = some t:=⟨_,g8 (by rw[HP.out.1];exact hlt)⟩
   obtain⟨e0,e1⟩:=kv ps k _ ht;obtain⟨xI,yI⟩:=HA.out.2.2.2 _ (gd ht);obtain⟨hi,lo,bW,dw,mH,mL,nQ⟩:=HR.out;have aQ:Below w.heap.size w wr:=eK.out.trans (nQ.below (B:=w.heap.size) eK.out.size (fun b hb=>by have:=HO.out;rcases hb with rfl | rfl <;> omega));have d0:wr.cell? (ad.add (k*2))=some (.int .i64 x):=Cx.q8 aQ (HP.out.2.2 ad rfl _ _ e0);have d1:wr.cell? ⟨(ad.add (k*2)).block,(ad.add (k*2)).off+1,none⟩=some (.int .i64 y):=by rw[qi _ _ _ (by omega)];exact Cx.q8 aQ (HP.out.2.2 ad rfl _ _ e1)
   have im:=HF.out.1.gs nQ;have HT:=lhd (aiq ht (aiq xI yI));have ez:=lhd (aiq bW (aiq dw (aiq mH (aiq mL (aiq nQ aQ)))));have Tz:=lhd im;clear e0 e1 ht xI yI bW dw mH mL nQ aQ im HR;go_wp2_with fail;obtain⟨V,hV⟩ : ∃ V:World,V=wr.alloc (.cells #[.int .i64 x,.int .i64 y] 50):=⟨_,rfl⟩
   rw[<-hV];have aD:Below wr.heap.size wr V:=by rw[hV];exact(Below.refl _ wr).alloc (nlr _) _
   have z0:V.cell? ⟨wr.heap.size,0,none⟩=some (.int .i64 x):=by rw[hV];exact qd wr _ _ (0,0) 0
   have z1:V.cell? ⟨wr.heap.size,1,none⟩=some (.int .i64 y):=by rw[hV];exact qd wr _ _ (0,0) 1
   clear hV d0 d1;obtain⟨bW,dw,mH,mL,nQ,aQ⟩:=ez.out;obtain⟨ht,xI,yI⟩:=HT.out;have Fl:=Tz.out.q8 aD;have Ay:=mH.q8 aD;have Az:=mL.q8 aD;have fz:=qih Fl HF.out.2.2 Ay Az x y xI yI;rw[nP.out.2] at fz;have mD:k < maxLen:=by unfold maxLen;omega
   have sR:wr.heap.size < V.heap.size:=World.block_lt_of_cell? V _ z0;have sS:BH < wr.heap.size/\BL < wr.heap.size:=⟨mH.lt,mL.lt⟩
   have t2:=Fl.t2;have t3:=Fl.t3;have pY:=lhd fz;have HV:=lhd (aiq aD (aiq Ay (aiq Az (aiq mD (aiq sR sS)))));clear bW dw mH mL nQ aQ ht xI yI Fl Ay Az fz aD mD sR sS;refine pY.out.mono ?_;rintro e w4 ⟨rfl,sQ⟩;have sQ:=sQ.symm;subst sQ;by_cases hf:kc K hi lo x y=true
   case neg =>
    have hf:kc K hi lo x y=false:=by simpa using hf
    have lq:=lhd hf;rw[hf];clear hf;go_wp2_with fail;go_ret2;obtain⟨bW,dw,mH,mL,nQ,aQ⟩:=ez.out;refine⟨aQ.trans (HV.out.1.mono aQ.size),.inl ⟨42,by decide,rfl,?_⟩⟩;have h1:xk K zz zz (ps.take k++[(x,y)])=none:=by
     rw[q14,bW];show (if kc K hi lo x y then _ else none)=none;rw[lq.out];rfl
    have h2:=q3i (ps.take k++[(x,y)]) (ps.drop (k+1)) h1;rw[show ps.take k++[(x,y)]++ps.drop (k+1)=ps by
     conv=>rhs;rw[<-gr (k+1) ps,gq,HT.out.1]
     rfl] at h2
    unfold opE;rw[HK.out,if_pos rfl,<-nP.out.1];unfold j8;rw[show (fun _=>0:Int->Int)=zz from rfl,h2]
   have lq:=lhd hf;rw[hf];clear hf;go_upto_region 10 with fail;obtain⟨aD,Ay,Az,mD,sR,sS⟩:=HV.out;have fA:∀ U,Gs (HL BH BL) V.drew U->U.cell? ⟨T,2,none⟩=some (.map (some BH))/\U.cell? ⟨T,3,none⟩=some (.map (some BL))/\U.cell? ⟨wr.heap.size,0,none⟩=some (.int .i64 x)/\U.cell? ⟨wr.heap.size,1,none⟩=some (.int .i64 y):=fun U hU=>by
    have hT:¬ HL BH BL T:=fun e=>e.elim J8.out.2.1 J8.out.2.2
    have hb:¬ HL BH BL wr.heap.size:=fun e=>e.elim (fun e=>by omega) (fun e=>by omega)
    exact⟨hU.cell hT t2,hU.cell hT t3,hU.cell hb z0,hU.cell hb z1⟩
   have KV:=lhd fA;have da:∀ U,qiv V.drew U BH BL k k hi lo x y y x->Hid (∃ hi lo,xk K zz zz (ps.take (k+1))=some (hi,lo)/\Mtc K hi lo/\MpI U BH (k+1) hi/\MpI U BL (k+1) lo/\Gs (HL BH BL) w3 U):=fun U hU=>by
    obtain⟨bW,dw,mH,mL,nQ,aQ⟩:=ez.out;refine⟨pu hi x y,pu lo y x,?_,q9d HG.out dw lq.out,hU.1,hU.2.1,((nQ.trans (Gs.xh aD)).drew).trans hU.2.2⟩;rw[gq,HT.out.1];show xk K zz zz (ps.take k++[(x,y)])=_;rw[q14,bW];show (if kc K hi lo x y then _ else none)=_;rw[lq.out];rfl
   have FN:=lhd da;obtain⟨hA,hB⟩:=qeg (w:=V.drew) (Ay.q8 (qb (Below.refl _ V) 1)) (Az.q8 (qb (Below.refl _ V) 1)) J8.out.1 y x HT.out.2.1 HT.out.2.2 (by omega) (by omega);unfold qbc at hA hB;obtain⟨vA,sA,T0,Ox,Fo,⟨T3,T4,T5,T6,T7,Oy,Fp,Oz,Fq,O0,Dj⟩,T8,T9,TA,TB,TC,TD,J9,O1,Fs,O2,Fu,O3,Dk,O4,Fv,Dl,pZ⟩:=hA;obtain⟨vB,sB,TE,O5,Fw,⟨TF,TG,TH,TI,TJ,O6,Fx,O7,Fy,O8,Dm⟩,TK,TL,TM,TN,TO,TP,JA,O9,Fz,OA,F0,OB,Dn,OC,F2,Dp,qA⟩:=hB;have aJ:=lhd (aiq Dj (aiq Dk (aiq pZ (aiq Dm (aiq Dn qA)))));clear fA da aD Ay Az mD sR sS Dj Dk pZ Dm Dn qA
   go_region_held (fun w'=>w'.cell? ⟨T,2,none⟩=some (.map (some BH))/\w'.cell? ⟨T,3,none⟩=some (.map (some BL))/\w'.cell? ⟨wr.heap.size,0,none⟩=some (.int .i64 x)/\w'.cell? ⟨wr.heap.size,1,none⟩=some (.int .i64 y)) (first | exact KV.out _ (Gs.refl _ _) | exact KV.out _ Fo | exact KV.out _ Fp | exact KV.out _ Fq | exact KV.out _ Fs | exact KV.out _ Fu | exact KV.out _ Fv | exact KV.out _ Fw | exact KV.out _ Fx | exact KV.out _ Fy | exact KV.out _ Fz | exact KV.out _ F0 | exact KV.out _ F2 | exact KV.out _ aJ.out.1.2.2 | exact KV.out _ aJ.out.2.1.2.2 | exact KV.out _ aJ.out.2.2.1.2.2 | exact KV.out _ aJ.out.2.2.2.1.2.2 | exact KV.out _ aJ.out.2.2.2.2.1.2.2 | exact KV.out _ aJ.out.2.2.2.2.2.2.2 | fail) (fail)
   all_goals
    go_wp2_with fail;go_roundw
    case measure=>simp[vI];omega
    case rel=>exact⟨k+1,qh (by omega),by omega,by first | exact FN.out _ aJ.out.1 | exact FN.out _ aJ.out.2.1 | exact FN.out _ aJ.out.2.2.1 | exact FN.out _ aJ.out.2.2.2.1 | exact FN.out _ aJ.out.2.2.2.2.1 | exact FN.out _ aJ.out.2.2.2.2.2⟩
  ·have bJ:k=dM:=by omega
   subst bJ;obtain⟨wo,db⟩ : ∃ wo,wo=wr:=⟨_,rfl⟩
   subst db;obtain⟨hi,lo,bW,dw,mH,mL,nQ⟩:=HR.out;rw[ge (by rw[HP.out.1];exact nlr _)] at bW;have aQ:Below w.heap.size w wo:=eK.out.trans (nQ.below (B:=w.heap.size) eK.out.size (fun b hb=>by have:=HO.out;rcases hb with rfl | rfl <;> omega));have im:=HF.out.1.gs nQ;have ez:=lhd (aiq bW (aiq dw (aiq mH (aiq mL (aiq aQ im)))));clear bW dw mH mL nQ aQ im HR;have uX:((∃ p∈ps,yp K hi p.1)->j8 K ps=43)/\((¬ ∃ p∈ps,yp K hi p.1)->j8 K ps=0):=by
    unfold j8;rw[show (fun _=>0:Int->Int)=zz from rfl,ez.out.1];exact⟨fun h=>if_pos h,fun h=>if_neg h⟩
   have aU:opE (l.map Ce.cl) ps=j8 K ps:=by
    unfold opE;rw[HK.out,if_pos rfl,<-nP.out.1]
   have HE:=lhd (aiq uX aU);clear uX aU;go_wp2_with fail;go_loopw [60] (fun i wr=>∃ j:Nat,i = .int .i64 j/\j<=k/\Hid (∀ p∈ps.take j,¬ yp K hi p.1)/\Below wo.heap.size wo wr) (fun i _=>k - (vI i).toNat)
   case atStart=>exact⟨0,rfl,gp _,(show Hid _ from fun p hp=>by rw[List.take_zero] at hp;cases hp),Below.refl _ _⟩
   case round =>
    obtain⟨j,rfl,hj,HN,lE⟩:=hrel;by_cases kT:j < k
    ·obtain⟨ad,rfl⟩ : ∃ ad,a1=some ad:=by
      cases a1 with
      | none=>have:=HP.out.2.1 rfl;omega
      | some ad=>exact⟨ad,rfl⟩
     obtain⟨⟨x,y⟩,ht⟩ : ∃ t,ps[j]? = some t:=⟨_,g8 (by rw[HP.out.1];exact kT)⟩
     obtain⟨e0,e1⟩:=kv ps j _ ht;have aL:Below w.heap.size w wr:=ez.out.2.2.2.2.1.trans (lE.mono ez.out.2.2.2.2.1.size);have d0:wr.cell? (ad.add (j*2))=some (.int .i64 x):=Cx.q8 aL (HP.out.2.2 ad rfl _ _ e0);have d1:wr.cell? ⟨(ad.add (j*2)).block,(ad.add (j*2)).off+1,none⟩=some (.int .i64 y):=by rw[qi _ _ _ (by omega)];exact Cx.q8 aL (HP.out.2.2 ad rfl _ _ e1)
     have HT:=lhd (aiq ht (aiq lE aL));clear e0 e1 ht lE aL;go_wp2_with fail;obtain⟨V,hV⟩ : ∃ V:World,V=wr.alloc (.cells #[.int .i64 x,.int .i64 y] 50):=⟨_,rfl⟩
     rw[<-hV];have aD:Below wr.heap.size wr V:=by rw[hV];exact(Below.refl _ wr).alloc (nlr _) _
     clear hV d0 d1;obtain⟨bW,dw,mH,mL,aQ,im⟩:=ez.out;obtain⟨ht,lE,aL⟩:=HT.out;have sT:Below wo.heap.size wo V:=lE.trans (aD.mono lE.size);have aZ:=gd ht;obtain⟨ey,dG⟩:=(yl HG.out ps zz zz (hi,lo) bW).2 _ aZ;have ey:hi x=y:=ey;have dG:y≠0:=dG;have ao:(j6 (mm.map Ce.cl)).length<=1000000000:=by
      rw[nP.out.2];have h1:=q4r HG.out.few;have h2:=HG.out.len;unfold j6;omega
     have yE:=qax (im.q8 sT) HF.out.2.2 HF.out.2.1 (mH.q8 sT) (fun d hd=>by rw[nP.out.2];exact q92 (dw.sg d hd)) x (by rw[ey];exact dG) (HA.out.2.2.2 _ aZ).1 ao;rw[nP.out.2] at yE;have JC:=lhd yE;have HV:=lhd sT;clear yE bW dw mH mL aQ im ht lE aL aD sT aZ ey dG ao;refine JC.out.mono ?_;rintro e w5 ⟨q,rfl,hq,ib⟩;have HQ:=lhd hq;have Dq:=lhd (HV.out.trans (ib.mono HV.out.size));clear hq ib;cases q with
     | true =>
      go_wp2_with fail;go_ret2;have ca:=ez.out.2.2.2.2.1;refine⟨ca.trans (Dq.out.mono ca.size),.inl ⟨43,by decide,rfl,?_⟩⟩;rw[HE.out.2];exact HE.out.1.1 ⟨_,gd HT.out.1,HQ.out.1 trivial⟩
     | false =>
      go_wp2_with fail;go_roundw
      case measure=>simp[vI];omega
      case rel =>
       refine⟨j+1,qh (by omega),by omega,(show Hid _ from fun p hp=>?_),Dq.out⟩;rw[gq,HT.out.1] at hp;rcases gF.1 hp with hp | hp
       ·exact HN.out p hp
       ·have:p=(x,y):=by simpa using hp
        rw[this];exact fun hc=>absurd (HQ.out.2 hc) (by decide)
    ·have kT:j=k:=by omega
     subst kT;have F3:=lhd lE;clear lE;go_wp2_with fail;go_ret2;obtain⟨bW,dw,mH,mL,aQ,im⟩:=ez.out;have dA:¬ ∃ p∈ps,yp K hi p.1:=fun ⟨p,hp,hc⟩=>by
      refine HN.out p ?_ hc;rw[ge (by rw[HP.out.1];exact nlr _)];exact hp
     have hz:j8 K ps=0:=HE.out.1.2 dA;refine⟨aQ.trans (F3.out.mono aQ.size),.inr ⟨by rw[HE.out.2];exact hz,HK.out,T,rfl,⟨BS,BH,BL,nb,a2,n2,c2,mm,hi,lo,im.q8 F3.out,nP.out.2.trans nP.out.1,HF.out.2.1,by rw[HP.out.1];exact mH.q8 F3.out,by rw[HP.out.1];exact mL.q8 F3.out,?_,?_,fun a ha=>?_,HO.out.1,HO.out.2.1,HO.out.2.2.1,HO.out.2.2.2⟩⟩⟩
     ·rw[<-nP.out.1];exact bW
     ·rw[<-nP.out.1];exact dw
     ·rw[<-nP.out.1] at ha;rcases q0e ps zz zz (hi,lo) bW a (q46 HG.out ha) with h1 | ⟨p,hp,rfl⟩
      ·exact absurd rfl h1
      ·exact dA ⟨p,hp,ha⟩
theorem qiw (w:World) (r:Option Nat):(Go.binOp .eql 122 (.map r) (.map none)).run Tryz.prog w = .ok (.bool r.isNone) w:=run_eql_map_nil w _ _ _ r Tryz.underlying122
attribute [local go_sem ↓] Go.wp_at_zero Go.wp_at_succ
theorem qix (t:Tm) (bk T BH n1:Nat) (hi:Int->Int) (w:World) (hc:w.cell? ⟨bk,0,none⟩=some (.pointer (some ⟨T,0,none⟩))) (q2:w.cell? ⟨T,2,none⟩=some (.map (some BH))) (hh:MpI w BH n1 hi) (ht:I64 t.c) :
  Calls Tryz.prog 162 #[Tm.v t,.pointer (some ⟨bk,0,none⟩)] w fun e w'=>e = .returned (.bool (hi t.c != 0))/\Below w.heap.size w w':=by
 obtain⟨W,hW⟩ : ∃ W,W=w.alloc (.cells #[.int .i64 t.c,.bool t.n,.string t.m] 71):=⟨_,rfl⟩
 have hB:Below w.heap.size w W:=by rw[hW];exact(Below.refl _ w).alloc (nlr _) _
 have h1:=Cx.q8 hB hc;have h2:=Cx.q8 hB q2;have h3:(Instr.lookup 122 (.map (some BH)) (.int .i64 t.c) false).run Tryz.prog W.drew = .ok (.int .i64 (hi t.c)) W.drew:=(hh.q8 (qb hB 1)).look ht;have h4:W.cell? ⟨w.heap.size,0,none⟩=some (.int .i64 t.c):=by rw[hW];exact qd w _ _ (0,0) 0
 have HB:=lhd hB;clear hc q2 hh ht hB;unfold Tm.v;go_enter Tryz.func162,Tryz.ntmps162;go_upto_region 1 with fail;rw[<-hW];clear hW
 go_still (by kernel_rfl)
 go_wp2;go_ret;exact⟨rfl,qb HB.out 1⟩
theorem qlu (t:Tm) (bk T BS:Nat) (nb:Int->Nat) (K:List Cl) (w:World) (hc:w.cell? ⟨bk,0,none⟩=some (.pointer (some ⟨T,0,none⟩))) (q1:w.cell? ⟨T,1,none⟩=some (.map (some BS))) (hh:Sds w BS nb K) (ht:I64 t.c) :
  Calls Tryz.prog 164 #[Tm.v t,.pointer (some ⟨bk,0,none⟩)] w fun e w'=>e = .returned (.bool (!jv K t.c))/\Below w.heap.size w w':=by
 obtain⟨W,hW⟩ : ∃ W,W=w.alloc (.cells #[.int .i64 t.c,.bool t.n,.string t.m] 71):=⟨_,rfl⟩
 have hB:Below w.heap.size w W:=by rw[hW];exact(Below.refl _ w).alloc (nlr _) _
 have h1:=Cx.q8 hB hc;have h2:=Cx.q8 hB q1;have h3:=q29 W.drew (Sds.q8 hh (qb hB 1)).top ht;have h4:W.cell? ⟨w.heap.size,0,none⟩=some (.int .i64 t.c):=by rw[hW];exact qd w _ _ (0,0) 0
 have HB:=lhd hB;clear hc q1 hh ht hB;unfold Tm.v;have qe:∀ (w:World) (r:Option Nat),(Go.binOp .eql 122 (.map r) (.map none)).run Tryz.prog w = .ok (.bool r.isNone) w:=qiw;obtain⟨q,hq⟩ : ∃ q,q=jv K t.c:=⟨_,rfl⟩
 rw[<-hq] at h3 ⊢;clear hq;cases q with
 | true =>
  rw[if_pos rfl] at h3;go_enter Tryz.func164,Tryz.ntmps164;go_upto_region 1 with fail;rw[<-hW];clear hW
  go_still (by kernel_rfl)
  go_wp2;go_ret;exact⟨rfl,qb HB.out 1⟩
 | false =>
  rw[if_neg (by simp)] at h3;go_enter Tryz.func164,Tryz.ntmps164;go_upto_region 1 with fail;rw[<-hW];clear hW
  go_still (by kernel_rfl)
  go_wp2;go_ret;exact⟨rfl,qb HB.out 1⟩
theorem qlv (t:Tm) (bk T BH BL n1 n2:Nat) (hi lo:Int->Int) (w:World) (hc:w.cell? ⟨bk,0,none⟩=some (.pointer (some ⟨T,0,none⟩))) (q2:w.cell? ⟨T,2,none⟩=some (.map (some BH))) (q3:w.cell? ⟨T,3,none⟩=some (.map (some BL))) (hh:MpI w BH n1 hi) (hl:MpI w BL n2 lo) (ht:I64 t.c) :
  Calls Tryz.prog 165 #[Tm.v t,.pointer (some ⟨bk,0,none⟩)] w fun e w'=>e = .returned (.bool (pdB hi lo t.c))/\Below w.heap.size w w':=by
 have hB:Below w.heap.size w (w.alloc (.cells #[.int .i64 t.c,.bool t.n,.string t.m] 71)):=(Below.refl _ w).alloc (nlr _) _;have h1:=Cx.q8 hB hc;have ae:=q2a T BH BL n1 n2 hi lo t.c _ (Cx.q8 hB q2) (Cx.q8 hB q3) (hh.q8 hB) (hl.q8 hB) ht;have HC:=lhd ae;have HB:=lhd hB;clear hc q2 q3 hh hl ht hB ae;unfold Tm.v;go_enter Tryz.func165,Tryz.ntmps165;go_wp2_with fail;refine HC.out.mono ?_;rintro e w2 ⟨rfl,rfl⟩;go_wp2;go_ret;exact⟨rfl,HB.out⟩
end Go.Proofs.YtlhicnfeajejhaaGreatDoor
namespace Go.Cx
theorem qbe {R:Nat->Prop} (h:∃ k,R k):∃ k,R k/\∀ j,R j->k<=j:=by
 obtain⟨k,hk⟩:=h;induction k using Nat.strongRecOn with
 | _ k ih =>
  by_cases h:∃ j,j < k/\R j
  ·obtain⟨j,hj,hr⟩:=h;exact ih j hj hr
  ·refine⟨k,hk,fun j hj=>?_⟩;apply gR;intro hn;exact h ⟨j,by omega,hj⟩
open Classical in
noncomputable def least (R:Nat->Prop):Nat:=if h:∃ k,R k then (qbe h).choose else 0
theorem q6t {R:Nat->Prop} (h:∃ k,R k):R (least R)/\∀ j,R j->least R<=j:=by
 unfold least;rw[dif_pos h];exact(qbe h).choose_spec
theorem qiy {R R':Nat->Prop} {k:Nat} (h:least R=k+1) (h':R' k):least R' < least R:=by
 have:=(q6t ⟨k,h'⟩).2 k h';omega
theorem qeh {L U:List Int} (h:L.Nodup) (hs:∀ x∈L,x∈U):L.length<=U.length:=by
 induction L generalizing U with
 | nil=>exact gp _
 | cons a L ih =>
  obtain⟨h1,h2⟩:=List.nodup_cons.1 h;have ha:=hs a (by simp);have:=ih (U:=U.erase a) h2 fun x hx=>(List.mem_erase_of_ne (fun e:x=a=>h1 (e ▸ hx))).2 (hs x (by simp[hx]))
  rw[List.length_erase_of_mem ha] at this;have hp:=List.length_pos_of_mem ha;rw[gD];omega
theorem q6u {K:List Cl} {L:List (Int×Int)} (h:Cn L) (hi:In0 K (co L)):L.length<=K.length:=by
 have h1:(L.map Prod.fst).Nodup:=by
  unfold List.Nodup;rw[List.pairwise_map];exact h.1.imp fun hl e=>by omega
 have:=qeh (U:=K.map Cl.id) h1 fun x hx=>by
  obtain⟨p,hp,rfl⟩:=go.1 hx;exact hi p.1 (by rw[zl h.1 hp];exact h.2 p hp)
 simpa using this
end Go.Cx
namespace Go.Proofs.YtlhicnfeajejhaaGreatDoor
open Go.Cx Go.RowKit
theorem q4s {K:List Cl} {mm:List Ce} (hK:mm.map Ce.cl=K) (ew:COk mm) {d:Int} (h:d∈K.map Cl.id):I64 d:=by
 obtain⟨x,hx,rfl⟩:=go.1 h;rw[<-hK] at hx;obtain⟨y,hy,rfl⟩:=go.1 hx;exact(ew y hy).1.1
theorem q9i {K:List Cl} {mm:List Ce} (hK:mm.map Ce.cl=K) (ew:COk mm) {L:List (Int×Int)} (h:Cn L) (hi:In0 K (co L)) {S:Nat} (hS:∀ d,nb (co L d)<=S):TOk S (ctm L):=LOk.tok fun p hp=>by
 have:=zl h.1 hp;exact⟨q4s hK ew (hi p.1 (by rw[this];exact h.2 p hp)),by rw[<-this];exact hS p.1⟩
theorem q6v {K:List Cl} (G:Cx.Good K):(z8 K).length<=256000:=by
 have key:∀ M:List Cl,(∀ x∈M,x.s.length<=64)->(z8 M).length<=M.length*64:=fun M=>by
  induction M with
  | nil=>intro _;simp[z8]
  | cons x M ih =>
   intro h;have h1:=h x (by simp);have h2:=ih fun y hy=>h y (by simp[hy])
   unfold z8 at h2 ⊢;rw[List.flatMap_cons,gl,gm,gD,Nat.succ_mul];omega
 have:=key K G.few;have:=G.len;omega
theorem q87 {K:List Cl} (G:Cx.Good K) (b a:Int):nb (sgn K b a)<=1:=by
 by_cases h:sgn K b a=0
 ·rw[h,q0g];omega
 ·refine q31 _ _ ?_;rcases G.q2v h with e | e <;> rw[e] <;> decide
theorem qod {K:List Cl} (G:Cx.Good K) (c d:Int):nb (bdD K c 1 d)<=1:=by
 rw[G.bdD,Int.one_mul];exact q87 G c d
theorem vg (c x:Int):co [(c,x)]=qw c x:=by
 funext d
 show (if c=d then x else 0)+0=_;unfold qw;by_cases h:d=c
 ·rw[if_pos h,if_pos h.symm,bD]
 ·rw[if_neg h,if_neg fun e=>h e.symm,bD]
structure Cst (w0:World) (base:Nat) (K:List Cl) (hi:Int->Int) (Wt:Int->Nat) (B:Nat) (f' h':Int->Int) (k:Nat) (va vh:Value) (wr:World):Prop where
 ex:∃ (La Lh:List (Int×Int)),Clr K hi k (co La) (co Lh) f' h'/\Cn La/\Cn Lh/\wr.ownsRow base 71 3 va La.length (tv (ctm La))/\Sl wr 3 vh (tv (ctm Lh))/\In0 K (co La)/\In0 K (co Lh)/\Ph (K.map Cl.id) Wt (co La)+Ph (K.map Cl.id) (fun _=>1) (co Lh)<=B
 below:Below w0.heap.size w0 wr
theorem qlw (U:List Int) (W:Int->Nat):Ph U W zz=0:=by
 unfold Ph zz;induction U with
 | nil=>rfl
 | cons a U ih=>rw[gN,bh,ih];simp
theorem qei {w:World} {T BS BH BL n c n1:Nat} {nbf:Int->Nat} {a:Option Addr} {mm:List Ce} {K:List Cl} {hi lo f' h':Int->Int} (hF:Fld w T BS BH BL nbf a n c mm) (hK:mm.map Ce.cl=K) (hG:Cx.Good K) (ew:COk mm) (hM:Mtc K hi lo) (mH:MpI w BH n1 hi) {Wt:Int->Nat} (hW:Wgt K hi Wt)
  (base:Nat) (v:Value) (L:List (Int×Int)) (hv:w.ownsRow base 71 3 v L.length (tv (ctm L))) (hb:base<=w.heap.size) (rI:Cn L) (hIn:In0 K (co L)) (S:Nat) (hS:∀ d,nb (co L d)<=S) (uJ:S<=1000000000) (N:Nat) (hC:Clr K hi N (co L) zz f' h') :
  Calls Tryz.prog 111 #[.pointer (some ⟨T,0,none⟩),v] w fun e w'=>∃ r1 r2 L1 L2,e = .returned (.tuple #[r1,r2])/\w'.ownsRow base 71 3 r1 L1.length (tv (ctm L1))/\Cn L1/\co L1=f'/\Sl w' 3 r2 (tv (ctm L2))/\Cn L2/\co L2=h'/\In0 K f'/\In0 K h'/\(∀ d,nb (f' d)<=S+4003/\nb (h' d)<=S+4003)/\Below w.heap.size w w':=by
 obtain⟨Wz,W6,W7,rfl⟩:=qg (Sl.qc hv);have dD:=qoa hW hS (by have:=hG.len;omega);have hlen:=hG.len;obtain⟨B,Ct⟩ : ∃ B,B=Ph (K.map Cl.id) Wt (co L):=⟨_,rfl⟩
 rw[<-Ct] at dD;have H0:=lhd (aiq hv (aiq rI (aiq hIn (aiq hC Ct))));have HP:=lhd (aiq hF (aiq hK (aiq hG (aiq ew (aiq hM (aiq mH (aiq hW (aiq dD hb))))))));have bound:∀ (La Lh:List (Int×Int)),In0 K (co La)->In0 K (co Lh)->Ph (K.map Cl.id) Wt (co La)+Ph (K.map Cl.id) (fun _=>1) (co Lh)<=B->(∀ d,nb (co La d)<=S+4003)/\∀ d,nb (co Lh d)<=S+4003:=fun La Lh i1 i2 hb=>⟨fun d=>gn (qb9 hW.pos i1 (gn (Nat.le_add_right _ _) hb) dD d) (by omega),fun d=>gn (qb9 (W:=fun _=>1) (fun _=>by omega) i2 (gn (Nat.le_add_left _ _) hb) dD d) (by omega)⟩
 have JD:=lhd bound;clear hv rI hIn hC Ct hF hK hG ew hM mH hW dD hb hS bound hlen;go_enter Tryz.func111,Tryz.ntmps111;go_wp2_with fail;obtain⟨W,hW⟩ : ∃ W:World,W=w.alloc (.cells #[.pointer (some ⟨T,0,none⟩)] 118):=⟨_,rfl⟩
 have aK:Below w.heap.size w W:=by rw[hW];exact(Below.refl _ w).alloc (nlr _) _
 have kb:W.cell? ⟨w.heap.size,0,none⟩=some (.pointer (some ⟨T,0,none⟩)):=by rw[hW];exact qd w #[.pointer (some ⟨T,0,none⟩)] 118 (0,0) 0
 obtain⟨bk,rS⟩ : ∃ bk,bk=w.heap.size:=⟨_,rfl⟩
 rw[<-rS] at kb ⊢;rw[<-hW];have HW:=lhd (aiq aK (aiq kb rS));clear aK kb hW rS;go_loopw [1,5] (fun va vh wr=>∃ k,Cst W base K hi Wt B f' h' k va vh wr) (fun va vh wr=>least (fun k=>Cst W base K hi Wt B f' h' k va vh wr))
 case atStart =>
  obtain⟨h1,h2,h3,h4,h5⟩:=H0.out;exact⟨N,⟨L,[],h4,h2,Cn.nil,qa h1 HW.out.1,Sl.nil _ _,h3,fun d hd=>absurd rfl hd,by rw[h5];exact Nat.le_of_eq (by rw[show co ([] : List (Int×Int))=zz from rfl,qlw,Nat.add_zero])⟩,Below.refl _ _⟩
 case round =>
  have aS:=(q6t hrel).1;obtain⟨kk,rU⟩ : ∃ kk,kk=least (fun k=>Cst W base K hi Wt B f' h' k u1 u5 wr):=⟨_,rfl⟩
  rw[<-rU] at aS;obtain⟨⟨La,Lh,h1,h2,h3,h4,h5,h6,h7,h8⟩,aQ⟩:=aS;have nP:=lhd rU;clear rU hrel;obtain⟨yF,A3,Dr,rfl⟩:=qg (Sl.qc h4);obtain⟨W8,TQ,TR,rfl⟩:=qg h5;have fld:∀ U,Below W.heap.size W U->Below w.heap.size w U/\U.cell? ⟨bk,0,none⟩=some (.pointer (some ⟨T,0,none⟩))/\Fld U T BS BH BL nbf a n c mm/\MpI U BH n1 hi:=fun U hU=>by
   have cW:Below w.heap.size w U:=HW.out.1.trans (hU.mono HW.out.1.size);exact⟨cW,Cx.q8 hU HW.out.2.1,HP.out.1.q8 cW,HP.out.2.2.2.2.2.1.q8 cW⟩
  have lJ:∀ t∈ctm La,I64 t.c:=fun t ht=>by
   obtain⟨p,hp,rfl⟩:=go.1 ht;exact q4s HP.out.2.1 HP.out.2.2.2.1 (h6 p.1 (by rw[zl h2.1 hp];exact h2.2 p hp))
  have fu:=qii (.slice yF A3 Dr) (ctm La) 162 #[.pointer (some ⟨bk,0,none⟩)] (fun t=>hi t.c != 0) wr (Sl.qc h4) Tryz.call162 (fun U hU t ht=>by
   obtain⟨_,k2,k3,k4⟩:=fld U (aQ.trans (hU.mono aQ.size));exact qix t bk T BH n1 hi U k2 k3.t2 k4 (lJ t ht))
  have Ds:=lhd fu;have A4:=lhd fld;have yG:=lhd (aiq h1 (aiq h2 (aiq h3 (aiq h4 (aiq h5 (aiq h6 (aiq h7 (aiq h8 (aiq aQ lJ)))))))));clear fu fld h1 h2 h3 h4 h5 h6 h7 h8 aQ lJ;go_wp2_with fail;refine Ds.out.mono ?_;rintro e w2 ⟨i,rfl,TS,ag⟩;have aF:=lhd (aiq (yG.out.2.2.2.2.2.2.2.2.1.trans (ag.mono yG.out.2.2.2.2.2.2.2.2.1.size)) ag);clear ag Ds;rcases TS with ⟨rfl,dA⟩ | ⟨j,t,rfl,hj,mQ,fw⟩
  ·have Fc:=lhd dA;clear dA;go_wp2_with fail;go_ret2;obtain⟨h1,h2,h3,h4,h5,h6,h7,h8,aQ,lJ⟩:=yG.out;obtain⟨e1,e2⟩:=qlp h1 fun q hq=>by
    have:=Fc.out _ (gE (f:=fun p:Int×Int=>(⟨p.1,decide (p.2 < 0),mg p.2⟩ : Tm)) hq);simpa using this
   obtain⟨b1,b2⟩:=JD.out La Lh h6 h7 h8;refine⟨_,_,La,Lh,rfl,qa h4 aF.out.2,h2,e1.symm,h5.q8 aF.out.2,h3,e2.symm,e1 ▸ h6,e2 ▸ h7,fun d=>by rw[e1,e2];exact⟨b1 d,b2 d⟩,HW.out.1.trans (aF.out.1.mono HW.out.1.size)⟩
  ·obtain⟨⟨c0,x0⟩,hp,rfl⟩ : ∃ p,La[j]? = some p/\t=⟨p.1,decide (p.2 < 0),mg p.2⟩:=by
    unfold ctm at hj;rw[List.getElem?_map] at hj;obtain⟨p,hp,he⟩:=Option.map_eq_some_iff.1 hj;exact⟨p,hp,he.symm⟩
   have eZ:hi c0≠0:=by simpa using mQ
   obtain⟨h1,h2,h3,h4,h5,h6,h7,h8,aQ,lJ⟩:=yG.out;obtain⟨m,hm,jU⟩:=qfv h1 h2 hp eZ (fun q hq=>by
    have:=fw ⟨q.1,decide (q.2 < 0),mg q.2⟩ (by
     show _∈(La.map _).take j;rw[<-List.map_take];exact gE (f:=fun p:Int×Int=>(⟨p.1,decide (p.2 < 0),mg p.2⟩ : Tm)) hq)
    simpa using this)
   obtain⟨hF,hK,hG,ew,hM,mH,lF,dD,af⟩:=HP.out;have eP:co La c0=x0:=zl h2.1 (gd hp);have kY:co La c0≠0:=by rw[eP];exact h2.2 _ (gd hp)
   have Fj:=h6 c0 kY;have iL:I64 c0:=q4s hK ew Fj;have o3:=hM.sg c0 eZ;have hh:=q92 o3;obtain⟨hv,nR⟩ : ∃ hv,hv=hi c0:=⟨_,rfl⟩
   have nS:I64 hv:=by
    rw[nR];obtain⟨y,hy,he⟩:=List.any_eq_true.1 hh;have he:y.id=hi c0:=by simpa using he
    rw[<-he];exact q4s hK ew (gE hy)
   obtain⟨sg,cr⟩ : ∃ sg,sg=sgn K hv c0:=⟨_,rfl⟩
   have iM:sg=1\/sg = -1:=by rw[cr,nR];exact hG.q2v o3
   have JE:=(Sl.qc h4).q8 aF.out.2;obtain⟨WA,n0,TT,sU,g1,g2,g3,g4,g5⟩:=JE;cases sU
   rw[z6,qz] at g3;have dP:j < La.length:=(gc.1 hp).1;obtain⟨ad,rfl⟩ : ∃ ad,yF=some ad:=by
    cases yF with
    | none=>have:=g4 rfl;omega
    | some ad=>exact⟨ad,rfl⟩
   obtain⟨e0,e1,e2⟩:=jd (ctm La) j ⟨c0,decide (x0 < 0),mg x0⟩ (by unfold ctm;rw[List.getElem?_map,hp];rfl);have d0:w2.cell? (ad.add (j*3))=some (.int .i64 c0):=g5 ad rfl _ _ e0;have d1:w2.cell? ⟨(ad.add (j*3)).block,(ad.add (j*3)).off+1,none⟩=some (.bool (decide (x0 < 0))):=by rw[qi _ _ _ (by omega)];exact g5 ad rfl _ _ e1
   have d2:w2.cell? ⟨(ad.add (j*3)).block,(ad.add (j*3)).off+2,none⟩=some (.string (mg x0)):=by rw[qi _ _ _ (by omega)];exact g5 ad rfl _ _ e2
   obtain⟨cn,JF,dF,sV⟩:=A4.out w2 aF.out.1;have tM:(j:Int) < A3:=by omega
   have hj0:¬ (j:Int) < 0:=by omega
   have Bi:(0:Int)<=j:=by omega
   have l0:(Instr.lookup 122 (.map (some BH)) (.int .i64 c0) false).run Tryz.prog w2.drew = .ok (.int .i64 hv) w2.drew:=by
    rw[nR];exact(sV.q8 (qb (Below.refl _ w2) 1)).look iL
   have t2:=dF.t2;have OD:∀ U,Below w2.heap.size w2 U->U.cell? ⟨bk,0,none⟩=some (.pointer (some ⟨T,0,none⟩))/\U.cell? ⟨T,1,none⟩=some (.map (some BS))/\U.cell? (ad.add (j*3))=some (.int .i64 c0) ∧
     (Instr.lookup 121 (.map (some BS)) (.int .i64 hv) false).run Tryz.prog U = .ok (.map (some (nbf hv))) U/\(Instr.lookup 122 (.map (some (nbf hv))) (.int .i64 c0) false).run Tryz.prog U = .ok (.int .i64 sg) U:=fun U hU=>by
    have f:=dF.q8 hU;have a1:=q29 U f.sid.top nS;have a2:=q7x (by rw[hK];exact hG.asc) f.sid.each hv iL;have TU:jv (mm.map Ce.cl) hv=true:=by rw[hK,nR];exact hh
    rw[TU,if_pos rfl] at a1 a2;rw[hK,<-cr] at a2;exact⟨Cx.q8 hU JF,f.t1,Cx.q8 hU d0,a1,a2⟩
   have A5:=lhd OD;have HX:=lhd (aiq hm (aiq jU (aiq eP (aiq nR (aiq cr (aiq iM (aiq nS (aiq iL (aiq cn (aiq dF (aiq dP (aiq eZ kY))))))))))));have HD:=lhd (aiq d0 (aiq d1 d2));clear eZ h1 h2 h3 h4 h5 h6 h7 h8 aQ lJ hm jU hF hK hG ew hM mH lF dD af eP kY Fj iL o3 hh nR nS cr iM g3 g4 g5 dP e0 e1 e2 cn dF sV OD hp mQ fw hj d1 d2;go_upto_region 4 with fail
   go_still (by kernel_rfl)
   show Exit.then _ _ _ _ w2.drew;obtain⟨w5,Dt⟩ : ∃ w5,w5=w2.drew:=⟨_,rfl⟩
   have B5:Below w2.heap.size w2 w5.drew:=by rw[Dt];exact qb (Below.refl _ w2) 2
   rw[<-Dt];clear l0 t2 d0 Dt;have l6:IntKind.i64.wrap (-sg) = -sg:=by rcases HX.out.2.2.2.2.2.1 with h | h <;> rw[h] <;> decide
   have n1 : -9223372036854775808<=-sg:=by rcases HX.out.2.2.2.2.2.1 with h | h <;> omega
   have n2 : -sg<=9223372036854775807:=by rcases HX.out.2.2.2.2.2.1 with h | h <;> omega
   have b5:Bx (w5.drew.alloc (.cells #[.bool false,.string ⟨#[]⟩] 38)) w5.heap.size false ⟨#[]⟩:=Bx.new w5.drew _ _ _;obtain⟨x1,x2,x3,x4⟩:=b5;go_upto_region 5 with fail
   go_cut [8] from 27 to 40 (fun p wx=>∃ p8,p=Value.pointer (some ⟨p8,0,none⟩)/\Bx wx p8 (decide (0 < sg)) (mg (-sg))/\Below w2.heap.size w2 wx)
   case first =>
    rename_i Jx Kx J1 J2
    go_region_held_law (fun U=>U.cell? ⟨bk,0,none⟩=some (.pointer (some ⟨T,0,none⟩))/\U.cell? ⟨T,1,none⟩=some (.map (some BS))/\U.cell? (ad.add (j*3))=some (.int .i64 c0) ∧
      (Instr.lookup 121 (.map (some BS)) (.int .i64 hv) false).run Tryz.prog U = .ok (.map (some (nbf hv))) U/\(Instr.lookup 122 (.map (some (nbf hv))) (.int .i64 c0) false).run Tryz.prog U = .ok (.int .i64 sg) U)
     (first | exact A5.out _ B5 | exact A5.out _ (B5.alloc B5.size _) | exact A5.out _ B6 | exact A5.out _ (B6.alloc B6.size _) | exact A5.out _ ((B6.setCell (show w2.heap.size<=w5.heap.size from B5.size) _).setCell (show w2.heap.size<=w5.heap.size from B5.size) _) | exact A5.out _ (((B6.alloc B6.size _).setCell (show w2.heap.size<=w6.heap.size from B6.size) _).setCell (show w2.heap.size<=w6.heap.size from B6.size) _) | fail)
     (first | (go_at_call 89;refine(qgv (-sg) _ n1 n2).mono ?_;rintro e w6 ⟨rfl,dJ⟩;have B6:Below w2.heap.size w2 w6:=(by first | exact B5.trans (dJ.mono B5.size) | exact(B5.alloc B5.size _).trans (dJ.mono (B5.alloc B5.size _).size));first | (have y1:=Cx.q8 dJ x1;have y2:=Cx.q8 dJ x2;have y3:=qv dJ (by simp) x3;have y4:=qv dJ (by simp) x4) | skip))
    all_goals
     ((try go_step);refine J2 _ _ (Met.intro ?_);refine J1 _ _ ?_;(repeat apply Exists.intro);refine⟨?rel,rfl⟩)
     case rel=>first | exact⟨_,rfl,Bx.new w6 _ _ _,B6.alloc B6.size _⟩ | exact⟨_,rfl,Bx.put (w:=w6) (b:=w5.heap.size) ⟨y1,y2,y3,y4⟩ (decide (0 < sg)) (mg (-sg)),q78 B6 (show w2.heap.size<=w5.heap.size from B5.size) _ _⟩
   case rest =>
    obtain⟨p8,rfl,iX,rJ⟩:=hcut;obtain⟨OE,OF,_,_⟩:=iX;obtain⟨d0,d1,d2⟩:=HD.out
    replace d1:=Cx.q8 rJ d1
    replace d2:=Cx.q8 rJ d2
    obtain⟨hm,jU,eP,nR,cr,iM,nS,iL,cn,dF,dP,eZ,kY⟩:=HX.out;obtain⟨h1,h2,h3,h4,h5,h6,h7,h8,aQ,lJ⟩:=yG.out;obtain⟨b1,b2⟩:=JD.out La Lh h6 h7 h8;obtain⟨y,hy⟩ : ∃ y,y = -sg*x0:=⟨_,rfl⟩
    have mV:nb x0<=S+4003:=by rw[<-eP];exact b1 c0
    have A6:nb y<=S+4003:=by
     rw[hy];rcases iM with h | h <;> rw[h]
     ·rw[show -1*x0 = -x0 by omega,qmt];exact mV
     ·rw[show -(-1)*x0=x0 by omega];exact mV
    have hmul:∀ U,Calls Tryz.prog 88 #[.agg #[.bool (decide (0 < sg)),.string (mg (-sg))],.agg #[.bool (decide (x0 < 0)),.string (mg x0)]] U fun e w'=>e = .returned (wv y)/\Below U.heap.size U w':=fun U=>by
     have h1:(mg (-sg)).size<=1099511627775:=by
      rw[j5];have:nb (-sg)<=1:=q31 _ _ (by rcases iM with h | h <;> rw[h] <;> decide);omega
     have:=qmh (decide (-sg < 0)) (decide (x0 < 0)) (mg (-sg)) (mg x0) U h1 (by rw[j5];omega);rw[q0i,q0i,<-hy] at this;rw[show decide (0 < sg)=decide (-sg < 0) from decide_eq_decide.2 (by omega)];exact this
    have JG:=lhd hmul;have lK:Below W.heap.size W wc:=aF.out.1.trans (rJ.mono aF.out.1.size);have HY:=lhd (aiq hy (aiq A6 (aiq lK rJ)));have JH:Hid (∀ U,Below wc.heap.size wc U->U.cell? ⟨p8,0,none⟩=some (.bool (decide (0 < sg)))/\U.cell? ⟨p8,1,none⟩=some (.string (mg (-sg)))/\U.cell? ⟨(ad.add (j*3)).block,(ad.add (j*3)).off+1,none⟩=some (.bool (decide (x0 < 0)))/\U.cell? ⟨(ad.add (j*3)).block,(ad.add (j*3)).off+2,none⟩=some (.string (mg x0))):=fun U hU=>⟨Cx.q8 hU OE,Cx.q8 hU OF,Cx.q8 hU d1,Cx.q8 hU d2⟩
    have B6:Below wc.heap.size wc wc.drew:=qb (Below.refl _ wc) 1;clear hm jU eP nR cr iM nS iL cn dF dP eZ kY h1 h2 h3 h4 h5 h6 h7 h8 aQ lJ b1 b2 hy mV A6 hmul lK rJ OE OF d1 d2 d0 n1 n2 l6 B5 x1 x2 x3 x4;go_upto_region 6 with fail
    go_region_held_law (fun U=>U.cell? ⟨p8,0,none⟩=some (.bool (decide (0 < sg)))/\U.cell? ⟨p8,1,none⟩=some (.string (mg (-sg)))/\U.cell? ⟨(ad.add (j*3)).block,(ad.add (j*3)).off+1,none⟩=some (.bool (decide (x0 < 0)))/\U.cell? ⟨(ad.add (j*3)).block,(ad.add (j*3)).off+2,none⟩=some (.string (mg x0)))
     (first | exact JH.out _ B6 | exact JH.out _ B7 | exact JH.out _ (B7.alloc B7.size _) | fail)
     (first | (go_at_call 88;refine(JG.out _).mono ?_;rintro e w7 ⟨rfl,jB⟩;have B7:Below wc.heap.size wc w7:=B6.trans (jB.mono B6.size)))
    have hs:=q13 w7 71 3 [.int .i64 hv,.bool (decide (y < 0)),.string (mg y)] 1 rfl (by unfold maxLen;omega);obtain⟨w8,F4⟩ : ∃ w8,w8=w7.alloc (.cells #[.int .i64 hv,.bool (decide (y < 0)),.string (mg y)] 71):=⟨_,rfl⟩
    have hs:Sl w8 3 (.slice (some ⟨w7.heap.size,0,none⟩) 1 1) (tv (ctm [(hv,y)])):=by rw[F4];exact hs
    have B8:Below wc.heap.size wc w8:=by rw[F4];exact B7.alloc B7.size _
    rw[<-F4];obtain⟨hm,jU,eP,nR,cr,iM,nS,iL,cn,dF,dP,eZ,kY⟩:=HX.out;obtain⟨h1,h2,h3,h4,h5,h6,h7,h8,aQ,lJ⟩:=yG.out;obtain⟨hF,hK,hG,ew,hM,mH,lF,dD,af⟩:=HP.out;obtain⟨b1,b2⟩:=JD.out La Lh h6 h7 h8;obtain⟨hy,A6,lK,rJ⟩:=HY.out;have OG:Below W.heap.size W w8:=lK.trans (B8.mono lK.size);have JI:Below wr.heap.size wr w8:=aF.out.2.trans ((rJ.trans (B8.mono rJ.size)).mono aF.out.2.size);have OH:=h5.q8 JI;have OI:=(Sl.qc h4).q8 JI;have dZ:TOk (S+4003) (ctm Lh):=q9i hK ew h3 h7 b2;have qB:TOk (S+4003) (ctm [(hv,y)]):=LOk.tok fun p hp=>by
     have:p=(hv,y):=by simpa using hp
     rw[this];exact⟨nS,A6⟩
    have Du:TOk (S+4003) (ctm La):=q9i hK ew h2 h6 b1;have OJ:=q6u h2 h6;have OK:=q6u h3 h7;have kU:=hG.len;have jV:(zk mm).length<=256000:=by rw[q2q,hK];exact q6v hG
    have HZ:=lhd (aiq hs (aiq OG (aiq OH (aiq OI (aiq dZ (aiq qB (aiq Du (aiq OJ (aiq OK (aiq kU jV))))))))));clear hm jU eP nR cr iM nS iL cn dF dP eZ kY h1 h2 h3 h4 h5 h6 h7 h8 aQ lJ hF hK hG ew hM mH lF dD af b1 b2 hy A6 lK rJ hs OG JI OH OI dZ qB Du OJ OK kU jV F4 B8 B7 jB B6;go_wp2_with fail;refine(qbw _ _ (ctm Lh) (ctm [(hv,y)]) (S+4003) w8 HZ.out.2.2.1 HZ.out.1 HZ.out.2.2.2.2.1 HZ.out.2.2.2.2.2.1 (by rw[qz,qz];have:=HZ.out.2.2.2.2.2.2.2.2;show _+_+1<=_;omega)).mono ?_;rintro e w9 ⟨r9,rfl,⟨OL,F8,FB,TV,fe⟩,nU⟩;obtain⟨v9,n9,c9,rfl⟩:=qg (Sl.qc fe);have A7:Below W.heap.size W w9:=HZ.out.2.1.trans (nU.mono HZ.out.2.1.size);obtain⟨_,WB,FC,_⟩:=A4.out w9 A7;have uT:=FC.t0;have HN:=lhd (aiq F8 (aiq FB (aiq fe (aiq nU (aiq A7 FC)))));clear F8 FB TV fe nU A7 FC;go_wp2_with fail;refine(q5y _ mm _ (ctm [(hv,y)]) (S+4003) w9 HN.out.2.2.2.2.2.row HP.out.2.2.2.1 (HZ.out.1.q8 HN.out.2.2.2.1) HZ.out.2.2.2.2.2.1 (by rw[qz];have:=HZ.out.2.2.2.2.2.2.2.2;show _+1+_<=_;omega)).mono ?_;rintro e oH ⟨WC,rfl,⟨Lb,yH,Dv,JJ,mE⟩,iN⟩;obtain⟨v10,n10,Ou,rfl⟩:=qg (Sl.qc mE);have e9:co Lb=bdD K hv y:=funext fun d=>by
     rw[Dv,zv,vg,q2q,HP.out.2.1];rfl
    have yJ:In0 K (co Lb):=by rw[e9];exact qcu HP.out.2.2.1 hv y
    have Dw:∀ d,nb (co Lb d)<=S+4004:=fun d=>by
     rw[e9,HP.out.2.2.1.bdD];have h1:=q39 y (sgn K hv d);have h2:=q87 HP.out.2.2.1 hv d;have h3:=HY.out.2.1;omega
    have qC:TOk (S+4004) (ctm Lb):=q9i HP.out.2.1 HP.out.2.2.2.1 yH yJ Dw;have JK:=q6u yH yJ;have HT:=lhd (aiq e9 (aiq mE (aiq iN (aiq qC JK))));clear yH Dv JJ mE iN e9 yJ Dw qC JK;go_wp2_with fail;have uY:Below w8.heap.size w8 oH:=HN.out.2.2.2.1.trans (HT.out.2.2.1.mono HN.out.2.2.2.1.size);refine(qbw _ _ (ctm La) (ctm Lb) (S+4004) oH (HZ.out.2.2.2.1.q8 uY) (Sl.qc HT.out.2.1) (HZ.out.2.2.2.2.2.2.1.mono (by omega)) HT.out.2.2.2.1 (by rw[qz,qz];have h1:=HZ.out.2.2.2.2.2.2.2;have h2:=HT.out.2.2.2.2;omega)).mono ?_;rintro e oI ⟨WD,rfl,⟨OM,Dx,Dy,JL,qD⟩,ff⟩;obtain⟨v11,n11,ON,rfl⟩:=qg (Sl.qc qD);have Dz:Cst W base K hi Wt B f' h' m (.slice v11 n11 ON) (.slice v9 n9 c9) oI:=by
     obtain⟨hm,jU,eP,nR,cr,iM,nS,iL,cn,dF,dP,eZ,kY⟩:=HX.out;obtain⟨h1,h2,h3,h4,h5,h6,h7,h8,aQ,lJ⟩:=yG.out;obtain⟨hF,hK,hG,ew,hM,mH,lF,dD,af⟩:=HP.out;obtain⟨hy,A6,lK,rJ⟩:=HY.out;obtain⟨F8,FB,fe,nU,A7,FC⟩:=HN.out;obtain⟨e9,mE,iN,qC,JK⟩:=HT.out;have e1:co OM=stF K hi (co La) c0:=funext fun d=>by
      rw[Dy,zv,zv,e9,hy];show _=co La d+bdD K (hi c0) (-(sgn K (hi c0) c0)*co La c0) d;rw[eP,<-nR,<-cr]
     have e2:co OL=stH K hi (co La) (co Lh) c0:=funext fun d=>by
      rw[FB,zv,zv,vg,hy];show _=co Lh d+qw (hi c0) (-(sgn K (hi c0) c0)*co La c0) d;rw[eP,<-nR,<-cr]
     have yK:Below W.heap.size W oH:=A7.trans (iN.mono A7.size);refine⟨⟨OM,OL,?_,Dx,F8,qf qD (gn af (gn HW.out.1.size yK.size)),(Sl.qc fe).q8 (iN.trans (ff.mono iN.size)),?_,?_,?_⟩,yK.trans (ff.mono yK.size)⟩
     ·rw[e1,e2];exact jU
     ·rw[e1];exact qmn hG h6 c0
     ·rw[e2];exact qo8 hG hM h7 eZ
     ·rw[e1,e2];exact gn (qlo hG hM lF h6 kY eZ) h8
    have D1:=lhd Dz;clear Dz Dx Dy JL qD ff uY;go_wp2_with fail;go_roundw
    case measure=>exact qiy (nP.out.symm.trans HX.out.1) D1.out
    case rel=>exact⟨_,D1.out⟩
end Go.Proofs.YtlhicnfeajejhaaGreatDoor
