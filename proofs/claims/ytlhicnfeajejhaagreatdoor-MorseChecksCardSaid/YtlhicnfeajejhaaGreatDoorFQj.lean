/- Steps towards MorseChecks. Conditions: none. -/
import Derived.Test.YtlhicnfeajejhaaGreatDoorFQi
set_option maxRecDepth 1000000
set_option maxHeartbeats 16000000
namespace Go.Cx
theorem q6w (f:Int->Bool) (L:List (Int×Int)):(ctm L).filter (fun t=>f t.c)=ctm (L.filter fun p=>f p.1):=by
 unfold ctm;rw[List.filter_map];rfl
theorem q88 {L:List (Int×Int)} (h:Cn L) (f:Int->Bool):Cn (L.filter fun p=>f p.1):=⟨h.1.filter _,fun p hp=>h.2 p (gH.1 hp).1⟩
theorem q2w (L:List (Int×Int)) (f:Int->Bool) (c:Int):co (L.filter fun p=>f p.1) c=if f c then co L c else 0:=by
 induction L with
 | nil=>split <;> rfl
 | cons p L ih =>
  rw[List.filter_cons,jh];by_cases hp:f p.1=true
  ·rw[if_pos hp,jh,ih];by_cases hc:p.1=c
   ·subst hc;rw[if_pos rfl,if_pos hp,if_pos hp]
   ·rw[if_neg hc];split <;> omega
  ·rw[if_neg hp,ih];by_cases hc:p.1=c
   ·subst hc;rw[if_neg hp,if_neg hp]
   ·rw[if_neg hc];split <;> omega
end Go.Cx
namespace Go.Proofs.YtlhicnfeajejhaaGreatDoor
open Go.Cx Go.RowKit
structure Fm (w:World) (T BS BH BL:Nat) (nb:Int->Nat) (a:Option Addr) (n c:Nat) (mm:List Ce) (K:List Cl) (N:Nat) (hi lo:Int->Int):Prop where
 fld:Fld w T BS BH BL nb a n c mm
 cl:mm.map Ce.cl=K
 good:Cx.Good K
 ok:COk mm
 mtc:Mtc K hi lo
 ac:∀ a,¬ yp K hi a
 mH:MpI w BH N hi
 mL:MpI w BL N lo
theorem Fm.q8 {w w':World} {T BS BH BL:Nat} {nb:Int->Nat} {a:Option Addr} {n c:Nat} {mm:List Ce} {K:List Cl} {N:Nat} {hi lo:Int->Int} (h:Fm w T BS BH BL nb a n c mm K N hi lo) (hb:Below w.heap.size w w'):Fm w' T BS BH BL nb a n c mm K N hi lo :=
 ⟨h.fld.q8 hb,h.cl,h.good,h.ok,h.mtc,h.ac,h.mH.q8 hb,h.mL.q8 hb⟩
theorem qoe {w:World} {T BS BH BL n c N:Nat} {nbf:Int->Nat} {a:Option Addr} {mm:List Ce} {K:List Cl} {hi lo:Int->Int} (hF:Fm w T BS BH BL nbf a n c mm K N hi lo)
  (v:Value) (l:List Tm) (S:Nat) (hv:Sl w 3 v (tv l)) (hS:TOk S l) (uJ:S+l.length<=1000000000) :
  Calls Tryz.prog 115 #[.pointer (some ⟨T,0,none⟩),v] w fun e w'=>∃ r L,e = .returned r/\Cn L/\co L=q85 K hi lo (co (prs l))/\w'.ownsRow w.heap.size 71 3 r L.length (tv (ctm L))/\In0 K (co L)/\(∀ d,nb (co L d)<=S+l.length+4003)/\Below w.heap.size w w':=by
 obtain⟨va,vn,vc,rfl⟩:=qg hv;have HF:=lhd hF;have HV:=lhd (aiq hv (aiq hS uJ));clear hF hv hS uJ;go_enter Tryz.func115,Tryz.ntmps115;go_wp2_with fail;obtain⟨W,hW⟩ : ∃ W:World,W=w.alloc (.cells #[.pointer (some ⟨T,0,none⟩)] 118):=⟨_,rfl⟩
 have aK:Below w.heap.size w W:=by rw[hW];exact(Below.refl _ w).alloc (nlr _) _
 have kb:W.cell? ⟨w.heap.size,0,none⟩=some (.pointer (some ⟨T,0,none⟩)):=by rw[hW];exact qd w #[.pointer (some ⟨T,0,none⟩)] 118 (0,0) 0
 obtain⟨bk,rS⟩ : ∃ bk,bk=w.heap.size:=⟨_,rfl⟩
 rw[<-rS] at kb ⊢;rw[<-hW];have kG:w.heap.size<=W.heap.size:=aK.size;have HW:=lhd (aiq aK kb);clear aK kb hW rS;refine(qdd _ l S W (HV.out.1.q8 HW.out.1) HV.out.2.1 (by have:=HV.out.2.2;omega)).mono ?_;rintro e w1 ⟨r,rfl,⟨L,rI,eP,wK,au⟩,al⟩;obtain⟨yF,A3,Dr,rfl⟩:=qg (Sl.qc au);have jG:∀ d,nb (co L d)<=S+l.length:=fun d=>by
  rw[eP d];have:=q0y S (prs l) (q19 HV.out.2.1) d
  rwa [kq] at this
 have h5:L.length<=1099511627776:=by have:=HV.out.2.2;omega
 have OO:∀ t∈ctm L,I64 t.c:=fun t ht=>by
  obtain⟨p,hp,rfl⟩:=go.1 ht;have h1:co L p.1≠0:=by rw[zl rI.1 hp];exact rI.2 p hp
  rw[eP p.1] at h1;obtain⟨q,hq,e,_⟩:=qca h1;obtain⟨t,ht,rfl⟩:=go.1 hq;obtain⟨i1,i2,_⟩:=HV.out.2.1 t ht;show I64 p.1;rw[<-e];exact⟨i1,i2⟩
 have fld:∀ U,Below W.heap.size W U->Below w.heap.size w U/\U.cell? ⟨bk,0,none⟩=some (.pointer (some ⟨T,0,none⟩))/\Fm U T BS BH BL nbf a n c mm K N hi lo:=fun U hU=>by
  have cW:Below w.heap.size w U:=HW.out.1.trans (hU.mono HW.out.1.size);exact⟨cW,Cx.q8 hU HW.out.2,HF.out.q8 cW⟩
 have A4:=lhd fld;have jW:=qil W.heap.size (.slice yF A3 Dr) (ctm L) 164 #[.pointer (some ⟨bk,0,none⟩)] (fun t=>!jv K t.c) w1 (by rw[qz];exact au) (by rw[qz];exact h5) Tryz.call164 (fun U hU t ht=>by
  have cW:Below W.heap.size w1 U:=hU.below al.size fun b hb=>(au.lt b hb).1
  obtain⟨_,k2,k3⟩:=fld U (al.trans cW);have:=qlu t bk T BS nbf (mm.map Ce.cl) U k2 k3.fld.t1 k3.fld.sid (OO t ht)
  rwa [k3.cl] at this)
 have jX:=lhd jW;have HL:=lhd (aiq rI (aiq eP (aiq au (aiq jG (aiq al h5)))));clear jW rI eP au jG fld wK OO al h5;go_wp2_with fail;refine jX.out.mono ?_;rintro e w2 ⟨r2,rfl,cj,cJ⟩;simp only [Bool.not_not] at cj;rw[q6w (fun c=>jv K c),qz] at cj;obtain⟨rI,eP,au,jG,al,h5⟩:=HL.out;have aw:Below W.heap.size w1 w2:=cJ.below al.size fun b hb=>(au.lt b hb).1
 have sW:Below W.heap.size W w2:=al.trans aw;obtain⟨cn,JF,dF⟩:=A4.out w2 sW;have jY:=q88 rI (fun c=>jv K c);have fX:co (L.filter fun p=>jv K p.1)=q1m K (co (prs l)):=by
  funext d
  rw[q2w];unfold q1m;rw[eP d]
 obtain⟨WE,TQ,TR,rfl⟩:=qg (Sl.qc cj);obtain⟨L2,CT⟩ : ∃ L2,L2=L.filter fun p=>jv K p.1:=⟨_,rfl⟩
 rw[<-CT] at cj jY fX;have hIn:In0 K (co L2):=by rw[fX];exact qit K _
 have nV:∀ d,nb (co L2 d)<=S+l.length:=fun d=>by
  rw[fX];unfold q1m;split
  ·rw[<-eP d];exact jG d
  ·rw[q0g];omega
 obtain⟨M,qE⟩:=q9f dF.good dF.mtc dF.ac hIn;obtain⟨Wt,D2⟩:=qct dF.good dF.mtc dF.ac;have eG:=qei dF.fld dF.cl dF.good dF.ok dF.mtc dF.mH D2 W.heap.size _ L2 cj sW.size jY hIn _ nV HV.out.2.2 M qE;have HC:=lhd eG;have H2:=lhd (aiq sW (aiq cn (aiq JF dF)));have TW:=lhd fX;clear eG sW cn dF qE D2 nV hIn jY cj fX CT aw cJ rI eP au jG al h5 jX;go_wp2_with fail;refine HC.out.mono ?_;rintro e w3 ⟨r1,r3,L3,L4,rfl,cY,lL,jZ,fU,JM,JN,A8,TX,sX,aB⟩;obtain⟨TY,TZ,Ua,rfl⟩:=qg (Sl.qc cY);obtain⟨WG,WH,WI,rfl⟩:=qg fU;have lM:Below W.heap.size W w3:=H2.out.1.trans (aB.mono H2.out.1.size);have D3:∀ t∈ctm L3,I64 t.c:=fun t ht=>by
  obtain⟨p,hp,rfl⟩:=go.1 ht;exact q4s H2.out.2.2.2.cl H2.out.2.2.2.ok (A8 p.1 (by rw[<-jZ,zl lL.1 hp];exact lL.2 p hp))
 have wI:L3.length<=4000:=gn (q6u lL (by rw[jZ];exact A8)) H2.out.2.2.2.good.len;have jW:=qil W.heap.size (.slice TY TZ Ua) (ctm L3) 165 #[.pointer (some ⟨bk,0,none⟩)] (fun t=>pdB hi lo t.c) w3 (by rw[qz];exact cY) (by rw[qz];omega) Tryz.call165 (fun U hU t ht=>by
  have cW:Below W.heap.size w3 U:=hU.below lM.size fun b hb=>(cY.lt b hb).1
  obtain⟨_,k2,k3⟩:=A4.out U (lM.trans cW);exact qlv t bk T BH BL N N hi lo U k2 k3.fld.t2 k3.fld.t3 k3.mH k3.mL (D3 t ht))
 have jX:=lhd jW;have H3:=lhd (aiq cY (aiq lL (aiq jZ (aiq A8 (aiq sX lM)))));clear jW cY lL jZ A8 sX lM D3 wI fU JM JN TX aB;go_wp2_with fail;refine jX.out.mono ?_;rintro e w4 ⟨r4,rfl,iq,rG⟩;rw[q6w (fun c=>!pdB hi lo c),qz] at iq;obtain⟨JO,JP,JQ,rfl⟩:=qg (Sl.qc iq);have H4:=lhd (aiq iq rG);clear iq rG jX;go_wp2_with fail;go_ret;obtain⟨cY,lL,jZ,A8,sX,lM⟩:=H3.out;obtain⟨iq,rG⟩:=H4.out;have bU:Below W.heap.size w3 w4:=rG.below lM.size fun b hb=>(cY.lt b hb).1
 have fP:∀ d,co (L3.filter fun p=>!pdB hi lo p.1) d=if pdB hi lo d then 0 else (q79 K hi (q1m K (co (prs l)))).1 d:=fun d=>by
  rw[q2w (f:=fun c=>!pdB hi lo c),jZ,TW.out];cases pdB hi lo d <;> rfl
 refine⟨_,_,rfl,q88 lL (fun c=>!pdB hi lo c),funext fP,qf iq kG,fun d hd=>?_,fun d=>?_,(A4.out w4 (lM.trans bU)).1⟩
 ·rw[q2w (f:=fun c=>!pdB hi lo c)] at hd;split at hd
  ·rw[jZ] at hd;exact A8 d hd
  ·exact absurd rfl hd
 ·rw[q2w (f:=fun c=>!pdB hi lo c)];split
  ·rw[jZ];exact(sX d).1
  ·rw[q0g];omega
attribute [local go_sem ↓] Go.wp_at_zero Go.wp_at_succ
theorem qlx (v:Value) (L:List Int) (g:Nat) (pb:Value) (f:Int->Bool) (w:World) (h:Sl w 1 v (ints L))
  (eg:∀ args w,(callFunc g args).run Tryz.prog w = .ok (.enter g args) w) (hf:∀ W,Below w.heap.size w W->∀ t∈L,Calls Tryz.prog g (#[pb,.int .i64 t]) W fun e w'=>e = .returned (.bool (f t))/\Below W.heap.size W w') :
  Calls Tryz.prog 187 #[v,.func (.func g) #[pb] #[]] w fun e w'=>∃ i:Int,e = .returned (.int .i64 i)/\q2s L f i/\Below w.heap.size w w':=by
 obtain⟨a,len,cap,rfl,h1,h2,h3,h4,h5⟩:=h;unfold maxLen at h2;rw[xl] at h3;have hl:L.length=len:=by omega
 clear h3;have Hl:=lhd hl;clear hl;have H4:=lhd h4;clear h4;have H5:=lhd h5;clear h5;have HF:=lhd hf;clear hf;go_enter Tryz.func187,Tryz.ntmps187;go_wp2;go_loopw [5,8] (fun _ i wr=>∃ k:Nat,i = .int .i64 k/\k<=len/\Hid (∀ t∈L.take k,f t=false)/\Below w.heap.size w wr) (fun _ i _=>len - (vI i).toNat)
 case atStart=>exact⟨0,rfl,gp _,(show Hid _ from fun t ht=>by simp at ht),Below.refl _ _⟩
 case round =>
  obtain⟨k,rfl,hk,HN,hB⟩:=hrel;by_cases hlt:k < len
  ·obtain⟨ad,rfl⟩ : ∃ ad,a=some ad:=by
    cases a with
    | none=>have:=H4.out rfl;omega
    | some ad=>exact⟨ad,rfl⟩
   obtain⟨t,ht⟩ : ∃ t,L[k]? = some t:=⟨_,g8 (by rw[Hl.out];exact hlt)⟩
   have e0:(ints L)[k]? = some (.int .i64 t):=by simp[ints,ht]
   have d0:wr.cell? (ad.add k)=some (.int .i64 t):=q8 hB (H5.out ad rfl _ _ e0);have ae:=HF.out wr hB t (gd ht);have HC:=lhd ae;have HT:=lhd ht;clear e0 ht ae;go_wp2_with fail;refine HC.out.mono ?_;rintro e w2 ⟨rfl,ag⟩;by_cases hft:f t=true
   ·have dL:=lhd hft;rw[hft];go_wp2;go_ret;exact⟨k,rfl,.inr ⟨k,t,rfl,HT.out,dL.out,HN.out⟩,hB.trans (ag.mono hB.size)⟩
   ·have iZ:f t=false:=by simpa using hft
    have dL:=lhd iZ;rw[iZ];clear hft iZ;go_wp2;go_roundw
    case measure=>simp[vI];omega
    case rel =>
     refine⟨k+1,qh (by omega),by omega,(show Hid _ from fun u hu=>?_),hB.trans (ag.mono hB.size)⟩;rw[gq,HT.out] at hu;rcases gF.1 hu with hu | hu
     ·exact HN.out u hu
     ·simp at hu;rw[hu];exact dL.out
  ·have bJ:k=len:=by omega
   have fR:=lhd bJ;clear bJ;go_wp2;go_ret;refine⟨-1,rfl,.inl ⟨rfl,?_⟩,hB⟩;have hn:=HN.out;rw[ge (by rw[Hl.out,fR.out];exact nlr _)] at hn;exact hn
theorem qly (base:Nat) (v:Value) (L:List Int) (g:Nat) (pb:Value) (f:Int->Bool) (w:World) (h:w.ownsRow base 3 1 v L.length (ints L)) (hlen:L.length<=1099511627776)
  (eg:∀ args w,(callFunc g args).run Tryz.prog w = .ok (.enter g args) w) (hf:∀ W,Gs (fun b=>v.ownBlock=some b) w W->∀ t∈L,Calls Tryz.prog g (#[pb,.int .i64 t]) W fun e w'=>e = .returned (.bool (f t))/\Below W.heap.size W w') :
  Calls Tryz.prog 160 #[v,.func (.func g) #[pb] #[]] w fun e w'=>∃ r,e = .returned r/\w'.ownsRow base 3 1 r (L.filter fun t=>!f t).length (ints (L.filter fun t=>!f t))/\Gs (fun b=>v.ownBlock=some b) w w':=by
 have fu:=qlx v L g pb f w (Sl.qc h) eg (fun W hW t ht=>hf W (Gs.xh hW) t ht);have HI:=lhd fu;have HF:=lhd hf;have HR:=lhd h;obtain⟨a,cap,rfl⟩:=qj h;obtain⟨len,hl⟩ : ∃ len,len=L.length:=⟨_,rfl⟩
 rw[<-hl] at HI HF HR hlen ⊢;have HL:=lhd hl;clear fu hf h hl;go_enter Tryz.func160,Tryz.ntmps160;go_wp2_with fail;refine HI.out.mono ?_;rintro e w1 ⟨i0,rfl,hi0,ai⟩;have aN:=lhd ai;rcases hi0 with ⟨rfl,aH⟩ | ⟨k,t0,rfl,hk,ht,fw⟩
 ·have HA:=lhd aH;clear aH ai;go_wp2_with fail;go_ret;have he:(L.filter fun t=>!f t)=L:=List.filter_eq_self.2 fun u hu=>by rw[HA.out u hu];rfl
  rw[he,<-HL.out];exact⟨_,rfl,qa HR.out aN.out,Gs.xh aN.out⟩
 ·have aR:k < len:=by rw[HL.out];exact(gc.1 hk).1
  obtain⟨b,cy⟩ : ∃ b,a=some ⟨b,0,none⟩:=by
   rcases HR.out.2 with ⟨h0,_⟩ | ⟨b,c',cur,he,_⟩
   ·cases h0;omega
   ·exact⟨b,by cases he;rfl⟩
  subst cy;have dR:=Sft.start (f:=f) hk ht fw;have oz:((k:Int) == -1)=false:=by simp
  have CD:=lhd dR;have dD:len<=cap/\cap<=maxLen:=by
   obtain⟨h1,h2,_⟩:=(Sl.qc HR.out).open;exact⟨h1,h2⟩
  obtain⟨uD,jR⟩:=dD;unfold maxLen at jR;have fj:=qa HR.out aN.out;have bV:=lhd fj;clear hk ht fw ai dR fj;go_wp2_with fail;go_loopw [5,6] (fun x5 x6 wr=>∃ (i j:Nat) (X:List Int),x5 = .int .i64 i/\x6 = .int .i64 j/\j<=len/\i < j/\Hid (Sft f L X i j)/\Hid (wr.ownsRow base 3 1 (.slice (some ⟨b,0,none⟩) len cap) len (ints X))/\Gs (fun c=>c=b) w wr) (fun _ x6 _=>len - (vI x6).toNat)
  case atStart=>exact⟨k,k+1,L,rfl,qh (by omega),by omega,by omega,CD.out,bV.out,Gs.xh aN.out⟩
  case round =>
   obtain⟨i,j,X,rfl,rfl,hj,dS,HS,HX,hG⟩:=hrel;have my:Gs (fun c=>(Value.slice (some ⟨b,0,none⟩) len cap).ownBlock=some c) w wr:=hG.mono fun c _ hc=>by rw[hc];rfl
   by_cases hlt:j < len
   ·obtain⟨t,ht⟩ : ∃ t,L[j]? = some t:=⟨_,g8 (by rw[<-HL.out];exact hlt)⟩
    have uE:X[j]? = some t:=HS.out.get.trans ht;obtain⟨u,hu⟩ : ∃ u,X[i]? = some u:=⟨_,g8 (by rw[HS.out.len,<-HL.out];omega)⟩
    have aA:=fun q=>(HX.out.cellAt q)
    have cu:=HX.out.frozenAt;have e0:(ints X)[j]? = some (.int .i64 t):=by simp[ints,uE]
    have d0:wr.cell? ⟨b,j,none⟩=some (.int .i64 t):=by rw[aA _ (by omega),e0]
    have o0:(ints X)[i]? = some (.int .i64 u):=by simp[ints,hu]
    have p0:wr.cell? ⟨b,i,none⟩=some (.int .i64 u):=by rw[aA _ (by omega),o0]
    clear e0 o0;have ae:=HF.out wr my t (gd ht);have HC:=lhd ae;have HT:=lhd ht;have Ni:=lhd my;clear ae ht uE hu aA cu my;cases hft:f t with
    | true =>
     have dL:=lhd hft;rw[hft] at HC;clear hft;go_wp2_with fail;refine HC.out.mono ?_;rintro e w2 ⟨rfl,ag⟩;have cm:Below wr.heap.size wr w2:=ag;have cJ:Gs (fun c=>c=b) w w2:=hG.then (S':=fun _=>False) (Gs.xh cm) (fun _ h=>h.elim);have dU:Hid (w2.ownsRow base 3 1 (.slice (some ⟨b,0,none⟩) len cap) len (ints X)):=qa HX.out cm;clear ag cm;go_wp2_with fail;go_roundw
     case measure=>simp[vI];omega
     case rel=>exact⟨i,j+1,X,rfl,qh (by omega),by omega,by omega,HS.out.skip HT.out dL.out,dU,cJ⟩
    | false =>
     have dL:=lhd hft;rw[hft] at HC;clear hft;go_wp2_with fail;refine HC.out.mono ?_;rintro e w2 ⟨rfl,ag⟩;have cm:Below wr.heap.size wr w2:=ag;have cJ:Gs (fun c=>c=b) w w2:=hG.then (S':=fun _=>False) (Gs.xh cm) (fun _ h=>h.elim);have dU:Hid (w2.ownsRow base 3 1 (.slice (some ⟨b,0,none⟩) len cap) len (ints X)):=qa HX.out cm;have f0:=dU.out.frozenAt i
     replace p0:=Cx.q8 cm p0
     clear ag cm;go_wp2_with fail;go_roundw
     case measure=>simp[vI];omega
     case rel=>exact⟨i+1,j+1,X.set i t,qh (by omega),qh (by omega),by omega,by omega,HS.out.put HT.out dL.out,by have:=(dU.out.stored i (.int .i64 t)).1;rw[show (ints X).set i (.int .i64 t)=ints (X.set i t) from by simp[ints,List.map_set]] at this;exact this,cJ.grown (dU.out.stored i (.int .i64 t)).2 (fun k e=>by cases e;exact .inr rfl)⟩
   ·have cX:j=len:=by omega
    have aA:=fun q=>(HX.out.cellAt q)
    have cu:=HX.out.frozenAt;have dx:=HX.out.1;obtain⟨zs,na⟩:=qe9 wr b (i) (len - i) (cap - i) (by omega) (fun q hq=>by rw[aA _ (by omega),g8 (by rw[dx];omega)];rfl) (fun q hq=>cu _);have ak:¬ cap=i:=by omega
    have HJ:=lhd cX;have HZ:=lhd (ku zs (i) HX.out);have fO:(i:Int)<=(len:Int):=by omega
    have hi0:(0:Int)<=(i:Int):=by omega
    clear aA cu dx cX my;go_wp2_with fail;go_ret;obtain⟨⟨ys,hy,pL⟩,lf⟩:=HZ.out;have fx:=HS.out.low;rw[HJ.out,HL.out,List.take_length] at fx;have oT:(L.filter fun t=>!f t).length=i:=by rw[<-fx,gh,HS.out.len,<-HL.out];omega
    refine⟨_,rfl,?_,(hG.trans lf).mono fun c _ hc=>by rw[hc];rfl⟩;have au:=q93 hy (i:=i) (by omega);rw[gK,pL,q6k,fx] at au;rw[oT];exact au
end Go.Proofs.YtlhicnfeajejhaaGreatDoor
namespace Go.Cx
open Go.Proofs.YtlhicnfeajejhaaGreatDoor
noncomputable def mhi (K:List Cl) (ps:List (Int×Int)):Int->Int:=((xk (canon K) zz zz ps).getD (zz,zz)).1
noncomputable def mlo (K:List Cl) (ps:List (Int×Int)):Int->Int:=((xk (canon K) zz zz ps).getD (zz,zz)).2
noncomputable def yt (K:List Cl) (ps:List (Int×Int)) (dim:Int):List Int:=if opE K ps=0 then q27 (canon K) (mhi K ps) (mlo K ps) dim else []
noncomputable def q4t (K:List Cl) (ps:List (Int×Int)) (f:Int->Int):Int->Int:=if opE K ps=0 then q85 (canon K) (mhi K ps) (mlo K ps) f else zz
noncomputable def upX (K:List Cl) (ps:List (Int×Int)) (c:Int):Int->Int:=if opE K ps=0/\jv (canon K) c=true/\pdB (mhi K ps) (mlo K ps) c=false then upF (canon K) (mhi K ps) c else zz
end Go.Cx
namespace Go.Proofs.YtlhicnfeajejhaaGreatDoor
open Go.Cx Go.RowKit
theorem Opn.fm {w w':World} {K:List Cl} {ps:List (Int×Int)} {T:Nat} (h:Opn w w' K ps T) (hc:chk K=(0,0)) :
  ∃ (BS BH BL:Nat) (nb:Int->Nat) (a:Option Addr) (n c:Nat) (mm:List Ce),Fm w' T BS BH BL nb a n c mm (canon K) ps.length (mhi K ps) (mlo K ps)/\w.heap.size<=T/\w.heap.size<=BS/\w.heap.size<=BH/\w.heap.size<=BL:=by
 obtain⟨BS,BH,BL,nb,a,n,c,mm,hi,lo,h1,h2,h3,h4,h5,h6,h7,h8,h9⟩:=h.ex;have e1:mhi K ps=hi:=by unfold mhi;rw[h6];rfl
 have e2:mlo K ps=lo:=by unfold mlo;rw[h6];rfl
 exact⟨BS,BH,BL,nb,a,n,c,mm,⟨h1,h2,q0d hc,h3,e1 ▸ e2 ▸ h7,e1 ▸ h8,e1 ▸ h4,e2 ▸ h5⟩,h9⟩
theorem qof {w:World} {T BS BH BL n c N:Nat} {nbf:Int->Nat} {a:Option Addr} {mm:List Ce} {K:List Cl} {hi lo:Int->Int} (hF:Fm w T BS BH BL nbf a n c mm K N hi lo) (dim:Int) :
  Calls Tryz.prog 109 #[.pointer (some ⟨T,0,none⟩),.int .i64 dim] w fun e w'=>∃ r,e = .returned r/\w'.ownsRow w.heap.size 3 1 r (q27 K hi lo dim).length (ints (q27 K hi lo dim))/\Below w.heap.size w w':=by
 have q0:=hF.fld.t0;have hl:mm.length<=4000:=by have:=hF.good.len;rw[<-hF.cl,gm] at this;exact this
 have HF:=lhd hF;clear hF;go_enter Tryz.func109,Tryz.ntmps109;go_wp2_with fail;refine(qow _ mm dim w HF.out.fld.row (by omega) HF.out.ok).mono ?_;rintro e w1 ⟨r,rfl,au,al⟩;rw[HF.out.cl] at au;obtain⟨yF,A3,Dr,rfl⟩:=qg (Sl.qc au);have qF:∀ t∈q04 K dim,I64 t:=fun t ht=>by
  unfold q04 at ht;rw[show cellsOf K=K by
   have h1:canon K=K:=q1j HF.out.good.asc fun x hx=>(HF.out.good.sasc x hx).imp fun h=>by omega
   unfold cellsOf;rw[h1,q08 HF.out.good.asc]] at ht
  obtain⟨x,hx,rfl⟩:=go.1 ht;exact q4s HF.out.cl HF.out.ok (gE (gH.1 hx).1)
 have fO:(q04 K dim).length<=1099511627776:=by
  unfold q04;rw[gm];refine gn (bg _ _) ?_;rw[show cellsOf K=K by
   have h1:canon K=K:=q1j HF.out.good.asc fun x hx=>(HF.out.good.sasc x hx).imp fun h=>by omega
   unfold cellsOf;rw[h1,q08 HF.out.good.asc]]
  have:=HF.out.good.len;omega
 have jW:=qly w.heap.size (.slice yF A3 Dr) (q04 K dim) 110 (.pointer (some ⟨T,0,none⟩)) (fun t=>pdB hi lo t) w1 au fO Tryz.call110 (fun U hU t ht=>by
  have cW:Below w.heap.size w1 U:=hU.below al.size fun b hb=>(au.lt b hb).1
  have k3:=HF.out.q8 (al.trans cW);exact(q2a T BH BL N N hi lo t U k3.fld.t2 k3.fld.t3 k3.mH k3.mL (qF t ht)).mono fun e w' ⟨h1,h2⟩=>⟨h1,h2 ▸ Below.refl _ _⟩)
 have jX:=lhd jW;have HR:=lhd (aiq au al);clear jW au al qF fO;go_wp2_with fail;refine jX.out.mono ?_;rintro e w2 ⟨r2,rfl,cj,cJ⟩;obtain⟨JO,JP,JQ,rfl⟩:=qg (Sl.qc cj);have H4:=lhd (aiq cj cJ);clear cj cJ jX;go_wp2_with fail;go_ret;exact⟨_,rfl,H4.out.1,HR.out.2.trans (H4.out.2.below HR.out.2.size fun b hb=>(HR.out.1.lt b hb).1)⟩
section
variable (v pvv:Value) (l:List Ce) (ps:List (Int×Int)) (w:World) (h:SlC w v l) (hl:l.length<=1099511627776) (hok:COk l) (hp:Sl w 2 pvv (pv ps)) (hpI:∀ p∈ps,I64 p.1/\I64 p.2)
include h hl hok hp hpI
theorem qlz:Calls Tryz.prog 43 #[.agg #[v],pvv] w fun e w'=>e = .returned (.int .i64 (opE (l.map Ce.cl) ps))/\Below w.heap.size w w':=by
 obtain⟨a,len,cap,rfl⟩:=qg h.1;obtain⟨a1,dM,fW,rfl⟩:=qg hp;have hB:Below w.heap.size w (w.alloc (.cells #[.slice a len cap] 26)):=(Below.refl _ w).alloc (nlr _) _;have hc:=q6s (.slice a len cap) (.slice a1 dM fW) l ps _ (h.q8 hB) hl hok (hp.q8 hB) hpI;have HC:=lhd hc;have HB:=lhd hB;clear hc hB h hl hok hp hpI;go_enter Tryz.func43,Tryz.ntmps43;go_wp2_with fail;refine HC.out.mono ?_;rintro e w1 ⟨al,hr⟩;have aN:=lhd (HB.out.trans (al.mono HB.out.size));clear al;rcases hr with ⟨E,h1,rfl,h2⟩ | ⟨h2,h3,T,rfl,h4⟩
 ·have H:=lhd (aiq h1 h2);clear h1 h2;go_wp2_with fail;go_ret;exact⟨by rw[H.out.2];rfl,aN.out⟩
 ·have H:=lhd h2;clear h2 h3 h4;go_wp2_with fail;go_ret;exact⟨by rw[H.out];rfl,aN.out⟩
theorem qcv (dim:Int):Calls Tryz.prog 45 #[.agg #[v],pvv,.int .i64 dim] w fun e w'=>∃ r,e = .returned r/\w'.ownsRow w.heap.size 3 1 r (yt (l.map Ce.cl) ps dim).length (ints (yt (l.map Ce.cl) ps dim))/\Below w.heap.size w w':=by
 obtain⟨a,len,cap,rfl⟩:=qg h.1;obtain⟨a1,dM,fW,rfl⟩:=qg hp;have hB:Below w.heap.size w (w.alloc (.cells #[.slice a len cap] 26)):=(Below.refl _ w).alloc (nlr _) _;have hc:=q6s (.slice a len cap) (.slice a1 dM fW) l ps _ (h.q8 hB) hl hok (hp.q8 hB) hpI;have HC:=lhd hc;have HB:=lhd hB;clear hc hB h hl hok hp hpI;go_enter Tryz.func45,Tryz.ntmps45;go_wp2_with fail;refine HC.out.mono ?_;rintro e w1 ⟨al,hr⟩;have aN:=lhd (HB.out.trans (al.mono HB.out.size));clear al;rcases hr with ⟨E,h1,rfl,h2⟩ | ⟨h2,h3,T,rfl,h4⟩
 ·have hb:(E != 0)=true:=by simpa using h1
  have H:=lhd (aiq h1 h2);clear h1 h2;go_wp2_with fail;go_ret;refine⟨_,rfl,?_,aN.out⟩;unfold yt;rw[H.out.2,if_neg H.out.1];exact World.ownsRow_nil _ _ _ _
 ·obtain⟨BS,BH,BL,nb,a2,n,c,mm,hF,_⟩:=h4.fm h3;have H:=lhd (aiq h2 hF);clear h2 h3 h4 hF;go_wp2_with fail;refine(qof H.out.2 dim).mono ?_;rintro e w2 ⟨r,rfl,hr,aw⟩;obtain⟨JO,JP,JQ,rfl⟩:=qg (Sl.qc hr);have H2:=lhd (aiq hr aw);clear hr aw;go_wp2_with fail;go_ret;refine⟨_,rfl,?_,aN.out.trans (H2.out.2.mono aN.out.size)⟩;unfold yt;rw[if_pos H.out.1];exact qf H2.out.1 aN.out.size
theorem qm0 (u:Value) (t:List Tm) (S:Nat) (hu:Sl w 3 u (tv t)) (hS:TOk S t) (uJ:S+t.length<=1000000000):Calls Tryz.prog 51 #[.agg #[v],pvv,u] w fun e w'=>∃ r L,e = .returned r/\Cn L/\co L=q4t (l.map Ce.cl) ps (co (prs t))/\w'.ownsRow w.heap.size 71 3 r L.length (tv (ctm L))/\(∀ d,co L d≠0->d∈(canon (l.map Ce.cl)).map Cl.id)/\(∀ d,nb (co L d)<=S+t.length+4003)/\Below w.heap.size w w':=by
 obtain⟨a,len,cap,rfl⟩:=qg h.1;obtain⟨a1,dM,fW,rfl⟩:=qg hp;obtain⟨a3,Ub,Uc,rfl⟩:=qg hu;have hB:Below w.heap.size w (w.alloc (.cells #[.slice a len cap] 26)):=(Below.refl _ w).alloc (nlr _) _;have hc:=q6s (.slice a len cap) (.slice a1 dM fW) l ps _ (h.q8 hB) hl hok (hp.q8 hB) hpI;have HC:=lhd hc;have HB:=lhd hB;have HU:=lhd (aiq hu (aiq hS uJ));clear hc hB h hl hok hp hpI hu hS uJ;go_enter Tryz.func51,Tryz.ntmps51;go_wp2_with fail;refine HC.out.mono ?_;rintro e w1 ⟨al,hr⟩;have aN:=lhd (HB.out.trans (al.mono HB.out.size));clear al;rcases hr with ⟨E,h1,rfl,h2⟩ | ⟨h2,h3,T,rfl,h4⟩
 ·have hb:(E != 0)=true:=by simpa using h1
  have H:=lhd (aiq h1 h2);clear h1 h2;go_wp2_with fail;go_ret;refine⟨_,[],rfl,Cn.nil,?_,World.ownsRow_nil _ _ _ _,fun d hd=>absurd rfl hd,fun d=>by rw[show co ([] : List (Int×Int)) d=0 from rfl,q0g];omega,aN.out⟩;unfold q4t;rw[H.out.2,if_neg H.out.1];rfl
 ·obtain⟨BS,BH,BL,nb,a2,n,c,mm,hF,_⟩:=h4.fm h3;have H:=lhd (aiq h2 hF);clear h2 h3 h4 hF;go_wp2_with fail;refine(qoe H.out.2 _ t S (HU.out.1.q8 aN.out) HU.out.2.1 HU.out.2.2).mono ?_;rintro e w2 ⟨r,L,rfl,k1,k2,k3,k4,k5,aw⟩;obtain⟨JO,JP,JQ,rfl⟩:=qg (Sl.qc k3);have H2:=lhd (aiq k1 (aiq k2 (aiq k3 (aiq k4 (aiq k5 aw)))));clear k1 k2 k3 k4 k5 aw;go_wp2_with fail;go_ret;obtain⟨k1,k2,k3,k4,k5,aw⟩:=H2.out;refine⟨_,L,rfl,k1,?_,qf k3 aN.out.size,k4,k5,aN.out.trans (aw.mono aN.out.size)⟩;unfold q4t;rw[if_pos H.out.1];exact k2
end
theorem qpf (v pvv:Value) (l:List Ce) (ps:List (Int×Int)) (w:World) (h:SlC w v l) (hl:l.length<=1099511627776) (hok:COk l) (hp:Sl w 2 pvv (pv ps)) (hpI:∀ p∈ps,I64 p.1/\I64 p.2) (id:Int) (hid:I64 id) :
  Calls Tryz.prog 46 #[.agg #[v],pvv,.int .i64 id] w fun e w'=>∃ r L,e = .returned r/\Cn L/\co L=upX (l.map Ce.cl) ps id/\w'.ownsRow w.heap.size 71 3 r L.length (tv (ctm L))/\(∀ d,co L d≠0->d∈(canon (l.map Ce.cl)).map Cl.id)/\(∀ d,nb (co L d)<=5000)/\Below w.heap.size w w':=by
 obtain⟨a,len,cap,rfl⟩:=qg h.1;obtain⟨a1,dM,fW,rfl⟩:=qg hp;have hB:Below w.heap.size w (w.alloc (.cells #[.slice a len cap] 26)):=(Below.refl _ w).alloc (nlr _) _;have hc:=q6s (.slice a len cap) (.slice a1 dM fW) l ps _ (h.q8 hB) hl hok (hp.q8 hB) hpI;have HC:=lhd hc;have HB:=lhd hB;have HI:=lhd hid;clear hc hB h hl hok hp hpI;obtain⟨K0,hK0⟩ : ∃ K0,K0=l.map Ce.cl:=⟨_,rfl⟩
 rw[<-hK0] at HC ⊢;have mF:∀ (w1:World),Below w.heap.size w w1->upX K0 ps id=zz->∃ r L,Ending.returned (.slice none 0 0) = .returned r/\Cn L/\co L=upX K0 ps id/\w1.ownsRow w.heap.size 71 3 r L.length (tv (ctm L))/\(∀ d,co L d≠0->d∈(canon K0).map Cl.id)/\(∀ d,nb (co L d)<=5000)/\Below w.heap.size w w1:=fun w1 hb hz=>⟨_,[],rfl,Cn.nil,hz.symm,World.ownsRow_nil _ _ _ _,fun d hd=>absurd rfl hd,fun d=>by rw[show co ([] : List (Int×Int)) d=0 from rfl,q0g];omega,hb⟩
 have JR:=lhd mF;clear mF hK0 hid;go_enter Tryz.func46,Tryz.ntmps46;go_wp2_with fail;refine HC.out.mono ?_;rintro e w1 ⟨al,hr⟩;have aN:=lhd (HB.out.trans (al.mono HB.out.size));clear al;rcases hr with ⟨E,h1,rfl,h2⟩ | ⟨h2,h3,T,rfl,h4⟩
 ·have hb:(E != 0)=true:=by simpa using h1
  have H:=lhd (aiq h1 h2);clear h1 h2;go_wp2_with fail;go_ret;exact JR.out _ aN.out (by unfold upX;rw[if_neg];intro hh;rw[H.out.2] at hh;exact H.out.1 hh.1)
 obtain⟨BS,BH,BL,OP,a2,n,c,mm,hF,_⟩:=h4.fm h3;have q0:=hF.fld.t0;have q1:=hF.fld.t1;have dd:=q29 w1 hF.fld.sid.top HI.out;rw[hF.cl] at dd;have qe:=qiw;have D5:=q2a T BH BL ps.length ps.length (mhi K0 ps) (mlo K0 ps) id w1 hF.fld.t2 hF.fld.t3 hF.mH hF.mL HI.out;have JS:=lhd D5;have H:=lhd (aiq h2 hF);clear h2 h3 h4 hF D5;by_cases hh:jv (canon K0) id=true
 case neg =>
  have hh:jv (canon K0) id=false:=by simpa using hh
  rw[hh,if_neg (by simp)] at dd;have HH:=lhd hh;clear hh;go_wp2_with fail;go_ret;exact JR.out _ aN.out (by unfold upX;rw[if_neg];intro hx;rw[HH.out] at hx;cases hx.2.1)
 rw[hh,if_pos rfl] at dd;have HH:=lhd hh;clear hh;obtain⟨pd,yL⟩ : ∃ pd,pd=pdB (mhi K0 ps) (mlo K0 ps) id:=⟨_,rfl⟩
 rw[<-yL] at JS;have OQ:=lhd yL;clear yL;cases pd with
 | true =>
  go_wp2_with fail;refine JS.out.mono ?_;rintro e w2 ⟨rfl,rfl⟩;go_wp2_with fail;go_ret;exact JR.out _ aN.out (by unfold upX;rw[if_neg];intro hx;rw[<-OQ.out] at hx;cases hx.2.2)
 | false =>
  go_wp2_with fail;refine JS.out.mono ?_;rintro e w2 ⟨rfl,eO⟩;have eO:=eO.symm;subst eO;clear dd;go_wp2_with fail;refine(qgv 1 _ (by decide) (by decide)).mono ?_;rintro e w3 ⟨rfl,ct⟩;have hs:=q13 w3 71 3 [.int .i64 id,.bool (decide ((1:Int) < 0)),.string (mg 1)] 1 rfl (by unfold maxLen;omega);have HS:=lhd hs;have eK:=lhd ct;have p0:=Cx.q8 ct q0;have Ud:=qk p0 (.cells #[.int .i64 id,.bool false,.string (mg 1)] 71);clear hs ct q0 q1;unfold wv;go_upto_region 5 with fail;have hG:=H.out.2.good;have eM:Sl (w3.alloc (.cells #[.int .i64 id,.bool false,.string (mg 1)] 71)) 3 (.slice (some ⟨w3.heap.size,0,none⟩) 1 1) (tv (ctm [(id,1)])):=HS.out;obtain⟨w4,sQ⟩ : ∃ w4,w4=w3.alloc (.cells #[.int .i64 id,.bool false,.string (mg 1)] 71):=⟨_,rfl⟩
  have B4:Below w1.heap.size w1 w4:=by rw[sQ];exact eK.out.alloc eK.out.size _
  rw[<-sQ] at eM Ud ⊢;have JT:=H.out.2.q8 B4;have dZ:TOk 1 (ctm [(id,1)]):=LOk.tok fun p hp=>by
   have:p=(id,1):=by simpa using hp
   rw[this];exact⟨HI.out,q31 1 1 (by decide)⟩
  have jV:(zk mm).length<=256000:=by rw[q2q,JT.cl];exact q6v hG
  have HX:=lhd (aiq eM (aiq B4 (aiq JT (aiq dZ (aiq jV hG)))));clear eM B4 JT dZ jV hG sQ HS eK p0;go_wp2_with fail;refine(q5y _ mm _ (ctm [(id,1)]) 1 w4 HX.out.2.2.1.fld.row HX.out.2.2.1.ok HX.out.1 HX.out.2.2.2.1 (by rw[qz];have:=HX.out.2.2.2.2.1;show _+1+_<=_;omega)).mono ?_;rintro e w5 ⟨r5,rfl,⟨Lb,OR,OS,Ue,yM⟩,ib⟩;obtain⟨v5,n5,c5,rfl⟩:=qg (Sl.qc yM);have e9:co Lb=bdD (canon K0) id 1:=funext fun d=>by
   rw[OS,zv,vg,q2q,HX.out.2.2.1.cl];rfl
  have hG:=HX.out.2.2.2.2.2;have qG:=HX.out.2.2.1.q8 ib;have JU:In0 (canon K0) (co Lb):=by rw[e9];exact qcu hG id 1
  have OT:∀ d,nb (co Lb d)<=1:=fun d=>by rw[e9];exact qod hG id d
  obtain⟨M,qE⟩:=q9f hG qG.mtc qG.ac JU;obtain⟨Wt,D2⟩:=qct hG qG.mtc qG.ac;have eG:=qei qG.fld qG.cl hG qG.ok qG.mtc qG.mH D2 w4.heap.size _ Lb yM ib.size OR JU 1 OT (by omega) M qE;rw[e9] at eG;have yN:=lhd eG;have HY:=lhd (aiq ib qG);clear eG qE D2 OR OS Ue yM ib e9 hG qG JU OT;go_wp2_with fail;refine yN.out.mono ?_;rintro e w6 ⟨r1,r2,L1,L2,rfl,fj,JV,JW,dh,jY,fX,hi1,hi2,jG,dJ⟩;obtain⟨v6,n6,c6,rfl⟩:=qg (Sl.qc fj);obtain⟨v7,n7,c7,rfl⟩:=qg dh;have yO:In0 (canon K0) (co L2):=by rw[fX];exact hi2
  have nV:∀ d,nb (co L2 d)<=4004:=fun d=>by rw[fX];have:=(jG d).2;omega
  have qB:TOk 4004 (ctm L2):=q9i H.out.2.cl H.out.2.ok jY yO nV;have l2:=q6u jY yO;have hlen:=HX.out.2.2.2.2.2.len;have HZ:=lhd (aiq jY (aiq fX (aiq dh (aiq hi2 (aiq nV (aiq qB (aiq l2 (aiq hlen dJ))))))));clear fj JV JW dh jY fX hi1 hi2 jG dJ yO nV qB l2 hlen yN;go_wp2_with fail;have yP:Below w4.heap.size w4 w6:=HY.out.1.trans (HZ.out.2.2.2.2.2.2.2.2.mono HY.out.1.size);refine(qbw _ _ (ctm [(id,1)]) (ctm L2) 4004 w6 (HX.out.1.q8 yP) HZ.out.2.2.1 (HX.out.2.2.2.1.mono (by omega)) HZ.out.2.2.2.2.2.1 (by rw[qz,qz];have:=HZ.out.2.2.2.2.2.2;show _+1+_<=_;omega)).mono ?_;rintro e w7 ⟨r8,rfl,⟨L8,uZ,rK,Uf,fB⟩,ox⟩;obtain⟨v8,n8,c8,rfl⟩:=qg (Sl.qc fB);have HW:=lhd (aiq uZ (aiq rK (aiq fB ox)));have JX:=lhd yP;clear uZ rK Uf fB ox yP;go_wp2_with fail;go_ret;obtain⟨uZ,rK,fB,ox⟩:=HW.out;have e8:co L8=upF (canon K0) (mhi K0 ps) id:=funext fun d=>by
   rw[rK,zv,zv,vg,HZ.out.2.1];rfl
  have oA:Below w.heap.size w w6:=aN.out.trans ((HX.out.2.1.trans (JX.out.mono HX.out.2.1.size)).mono aN.out.size);have qH:id∈(canon K0).map Cl.id:=by
   obtain⟨x,hx,he⟩:=List.any_eq_true.1 HH.out;have he:x.id=id:=by simpa using he
   exact he ▸ gE hx
  refine⟨_,L8,rfl,uZ,?_,qf fB oA.size,fun d hd=>?_,fun d=>?_,oA.trans (ox.mono oA.size)⟩
  ·rw[e8];unfold upX;rw[if_pos ⟨H.out.1,HH.out,OQ.out.symm⟩]
  ·rw[rK,zv,zv,vg] at hd;by_cases h0:d=id
   ·rw[h0];exact qH
   ·have:co L2 d≠0:=fun e=>hd (by rw[e];unfold qw;rw[if_neg h0];rfl)
    rw[HZ.out.2.1] at this;exact HZ.out.2.2.2.1 d this
  ·rw[rK,zv,zv,vg];have h1:=qbn (qw id 1 d) (co L2 d);have h2:=HZ.out.2.2.2.2.1 d;have h3:nb (qw id 1 d)<=1:=by
    unfold qw;split
    ·exact q31 _ _ (by decide)
    ·rw[q0g];omega
   omega
end Go.Proofs.YtlhicnfeajejhaaGreatDoor
