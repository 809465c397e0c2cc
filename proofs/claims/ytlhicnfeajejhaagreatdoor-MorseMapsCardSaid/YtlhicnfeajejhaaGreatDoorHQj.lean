/- Steps towards MorseMaps. Conditions: none. -/
import Derived.Test.YtlhicnfeajejhaaGreatDoorHQi
set_option maxRecDepth 1000000
set_option maxHeartbeats 16000000
namespace Go.Cx
theorem q6w (f:Int->Bool) (L:List (Int×Int)):(ctm L).filter (fun t=>f t.c)=ctm (L.filter fun p=>f p.1):=by
 unfold ctm;rw[List.filter_map];rfl
theorem q88 {L:List (Int×Int)} (h:Cn L) (f:Int->Bool):Cn (L.filter fun p=>f p.1):=⟨h.1.filter _,fun p hp=>h.2 p (gL.1 hp).1⟩
theorem q2w (L:List (Int×Int)) (f:Int->Bool) (c:Int):co (L.filter fun p=>f p.1) c=if f c then co L c else 0:=by
 induction L with
 | nil=>split <;> rfl
 | cons p L ih =>
  rw[List.filter_cons,jh];by_cases hp:f p.1=true
  ·rw[if_pos hp,jh,ih];by_cases hc:p.1=c
   ·subst hc;rw[if_pos rfl,if_pos hp,if_pos hp]
   ·rw[if_neg hc];split <;> omega
  ·rw[if_neg hp,ih];by_cases hc:p.1=c
   ·subst hc;rw[if_neg hp,if_neg hp]
   ·rw[if_neg hc];split <;> omega
end Go.Cx
namespace Go.Proofs.YtlhicnfeajejhaaGreatDoor
open Go.Cx Go.RowKit
structure Fm (w:World) (T BS BH BL:Nat) (nb:Int->Nat) (a:Option Addr) (n c:Nat) (mm:List Ce) (K:List Cl) (N:Nat) (hi lo:Int->Int):Prop where
 fld:Fld w T BS BH BL nb a n c mm
 cl:mm.map Ce.cl=K
 good:Cx.Good K
 ok:COk mm
 mtc:Mtc K hi lo
 ac:∀ a,¬ yp K hi a
 mH:MpI w BH N hi
 mL:MpI w BL N lo
theorem Fm.q8 {w w':World} {T BS BH BL:Nat} {nb:Int->Nat} {a:Option Addr} {n c:Nat} {mm:List Ce} {K:List Cl} {N:Nat} {hi lo:Int->Int} (h:Fm w T BS BH BL nb a n c mm K N hi lo) (hb:Below w.heap.size w w'):Fm w' T BS BH BL nb a n c mm K N hi lo :=
 ⟨h.fld.q8 hb,h.cl,h.good,h.ok,h.mtc,h.ac,h.mH.q8 hb,h.mL.q8 hb⟩
theorem qoe {w:World} {T BS BH BL n c N:Nat} {nbf:Int->Nat} {a:Option Addr} {mm:List Ce} {K:List Cl} {hi lo:Int->Int} (hF:Fm w T BS BH BL nbf a n c mm K N hi lo)
  (v:Value) (l:List Tm) (S:Nat) (hv:Sl w 3 v (tv l)) (hS:TOk S l) (wT:S+l.length<=1000000000) :
  Calls Tryz.prog 115 #[.pointer (some ⟨T,0,none⟩),v] w fun e w'=>∃ r L,e = .returned r/\Cn L/\co L=q85 K hi lo (co (prs l))/\w'.ownsRow w.heap.size 71 3 r L.length (tv (ctm L))/\In0 K (co L)/\(∀ d,nb (co L d)<=S+l.length+4003)/\Below w.heap.size w w':=by
 obtain⟨va,vn,vc,rfl⟩:=qg hv;have HF:=lhd hF;have HV:=lhd (aiq hv (aiq hS wT));clear hF hv hS wT;go_enter Tryz.func115,Tryz.ntmps115;go_wp2_with fail;obtain⟨W,hW⟩ : ∃ W:World,W=w.alloc (.cells #[.pointer (some ⟨T,0,none⟩)] 118):=⟨_,rfl⟩
 have bP:Below w.heap.size w W:=by rw[hW];exact(Below.refl _ w).alloc (nlr _) _
 have kb:W.cell? ⟨w.heap.size,0,none⟩=some (.pointer (some ⟨T,0,none⟩)):=by rw[hW];exact qd w #[.pointer (some ⟨T,0,none⟩)] 118 (0,0) 0
 obtain⟨bk,tJ⟩ : ∃ bk,bk=w.heap.size:=⟨_,rfl⟩
 rw[<-tJ] at kb ⊢;rw[<-hW];have jD:w.heap.size<=W.heap.size:=bP.size;have HW:=lhd (aiq bP kb);clear bP kb hW tJ;refine(qdd _ l S W (HV.out.1.q8 HW.out.1) HV.out.2.1 (by have:=HV.out.2.2;omega)).mono ?_;rintro e w1 ⟨r,rfl,⟨L,tz,et,vJ,aC⟩,ak⟩;obtain⟨A9,BZ,EN,rfl⟩:=qg (Sl.qc aC);have fX:∀ d,nb (co L d)<=S+l.length:=fun d=>by
  rw[et d];have:=q0y S (prs l) (q19 HV.out.2.1) d
  rwa [kq] at this
 have h5:L.length<=1099511627776:=by have:=HV.out.2.2;omega
 have QU:∀ t∈ctm L,I64 t.c:=fun t ht=>by
  obtain⟨p,hp,rfl⟩:=go.1 ht;have h1:co L p.1≠0:=by rw[zl tz.1 hp];exact tz.2 p hp
  rw[et p.1] at h1;obtain⟨q,hq,e,_⟩:=qca h1;obtain⟨t,ht,rfl⟩:=go.1 hq;obtain⟨i1,i2,_⟩:=HV.out.2.1 t ht;show I64 p.1;rw[<-e];exact⟨i1,i2⟩
 have fld:∀ U,Below W.heap.size W U->Below w.heap.size w U/\U.cell? ⟨bk,0,none⟩=some (.pointer (some ⟨T,0,none⟩))/\Fm U T BS BH BL nbf a n c mm K N hi lo:=fun U hU=>by
  have dU:Below w.heap.size w U:=HW.out.1.trans (hU.mono HW.out.1.size);exact⟨dU,Cx.q8 hU HW.out.2,HF.out.q8 dU⟩
 have Ca:=lhd fld;have lS:=qil W.heap.size (.slice A9 BZ EN) (ctm L) 164 #[.pointer (some ⟨bk,0,none⟩)] (fun t=>!jv K t.c) w1 (by rw[qz];exact aC) (by rw[qz];exact h5) Tryz.call164 (fun U hU t ht=>by
  have dU:Below W.heap.size w1 U:=hU.below ak.size fun b hb=>(aC.lt b hb).1
  obtain⟨_,k2,k3⟩:=fld U (ak.trans dU);have:=qlu t bk T BS nbf (mm.map Ce.cl) U k2 k3.fld.t1 k3.fld.sid (QU t ht)
  rwa [k3.cl] at this)
 have lT:=lhd lS;have HL:=lhd (aiq tz (aiq et (aiq aC (aiq fX (aiq ak h5)))));clear lS tz et aC fX fld vJ QU ak h5;go_wp2_with fail;refine lT.out.mono ?_;rintro e w2 ⟨r2,rfl,cN,dG⟩;simp only [Bool.not_not] at cN;rw[q6w (fun c=>jv K c),qz] at cN;obtain⟨tz,et,aC,fX,ak,h5⟩:=HL.out;have ar:Below W.heap.size w1 w2:=dG.below ak.size fun b hb=>(aC.lt b hb).1
 have uH:Below W.heap.size W w2:=ak.trans ar;obtain⟨cY,LV,e6⟩:=Ca.out w2 uH;have lU:=q88 tz (fun c=>jv K c);have jK:co (L.filter fun p=>jv K p.1)=q1m K (co (prs l)):=by
  funext d
  rw[q2w];unfold q1m;rw[et d]
 obtain⟨Zv,WB,WC,rfl⟩:=qg (Sl.qc cN);obtain⟨L2,Es⟩ : ∃ L2,L2=L.filter fun p=>jv K p.1:=⟨_,rfl⟩
 rw[<-Es] at cN lU jK;have hIn:In0 K (co L2):=by rw[jK];exact qit K _
 have pF:∀ d,nb (co L2 d)<=S+l.length:=fun d=>by
  rw[jK];unfold q1m;split
  ·rw[<-et d];exact fX d
  ·rw[q0g];omega
 obtain⟨M,sw⟩:=q9f e6.good e6.mtc e6.ac hIn;obtain⟨Wt,Fc⟩:=qct e6.good e6.mtc e6.ac;have fN:=qei e6.fld e6.cl e6.good e6.ok e6.mtc e6.mH Fc W.heap.size _ L2 cN uH.size lU hIn _ pF HV.out.2.2 M sw;have HC:=lhd fN;have H2:=lhd (aiq uH (aiq cY (aiq LV e6)));have WI:=lhd jK;clear fN uH cY e6 sw Fc pF hIn lU cN jK Es ar dG tz et aC fX ak h5 lT;go_wp2_with fail;refine HC.out.mono ?_;rintro e w3 ⟨r1,r3,L3,L4,rfl,da,nO,lV,jQ,Mc,Md,Cf,WJ,uI,aA⟩;obtain⟨WK,WL,WM,rfl⟩:=qg (Sl.qc da);obtain⟨Zw,Zx,Zy,rfl⟩:=qg jQ;have nP:Below W.heap.size W w3:=H2.out.1.trans (aA.mono H2.out.1.size);have Fe:∀ t∈ctm L3,I64 t.c:=fun t ht=>by
  obtain⟨p,hp,rfl⟩:=go.1 ht;exact q4s H2.out.2.2.2.cl H2.out.2.2.2.ok (Cf p.1 (by rw[<-lV,zl nO.1 hp];exact nO.2 p hp))
 have zC:L3.length<=4000:=gl (q6u nO (by rw[lV];exact Cf)) H2.out.2.2.2.good.len;have lS:=qil W.heap.size (.slice WK WL WM) (ctm L3) 165 #[.pointer (some ⟨bk,0,none⟩)] (fun t=>pdB hi lo t.c) w3 (by rw[qz];exact da) (by rw[qz];omega) Tryz.call165 (fun U hU t ht=>by
  have dU:Below W.heap.size w3 U:=hU.below nP.size fun b hb=>(da.lt b hb).1
  obtain⟨_,k2,k3⟩:=Ca.out U (nP.trans dU);exact qlv t bk T BH BL N N hi lo U k2 k3.fld.t2 k3.fld.t3 k3.mH k3.mL (Fe t ht))
 have lT:=lhd lS;have H3:=lhd (aiq da (aiq nO (aiq lV (aiq Cf (aiq uI nP)))));clear lS da nO lV Cf uI nP Fe zC jQ Mc Md WJ aA;go_wp2_with fail;refine lT.out.mono ?_;rintro e w4 ⟨r4,rfl,jT,tu⟩;rw[q6w (fun c=>!pdB hi lo c),qz] at jT;obtain⟨Me,Mf,Mg,rfl⟩:=qg (Sl.qc jT);have H4:=lhd (aiq jT tu);clear jT tu lT;go_wp2_with fail;go_ret;obtain⟨da,nO,lV,Cf,uI,nP⟩:=H3.out;obtain⟨jT,tu⟩:=H4.out;have aF:Below W.heap.size w3 w4:=tu.below nP.size fun b hb=>(da.lt b hb).1
 have fG:∀ d,co (L3.filter fun p=>!pdB hi lo p.1) d=if pdB hi lo d then 0 else (q79 K hi (q1m K (co (prs l)))).1 d:=fun d=>by
  rw[q2w (f:=fun c=>!pdB hi lo c),lV,WI.out];cases pdB hi lo d <;> rfl
 refine⟨_,_,rfl,q88 nO (fun c=>!pdB hi lo c),funext fG,qf jT jD,fun d hd=>?_,fun d=>?_,(Ca.out w4 (nP.trans aF)).1⟩
 ·rw[q2w (f:=fun c=>!pdB hi lo c)] at hd;split at hd
  ·rw[lV] at hd;exact Cf d hd
  ·exact absurd rfl hd
 ·rw[q2w (f:=fun c=>!pdB hi lo c)];split
  ·rw[lV];exact(uI d).1
  ·rw[q0g];omega
attribute [local go_sem ↓] Go.wp_at_zero Go.wp_at_succ
theorem qlx (v:Value) (L:List Int) (g:Nat) (pb:Value) (f:Int->Bool) (w:World) (h:Sl w 1 v (ints L))
  (eg:∀ args w,(callFunc g args).run Tryz.prog w = .ok (.enter g args) w) (hf:∀ W,Below w.heap.size w W->∀ t∈L,Calls Tryz.prog g (#[pb,.int .i64 t]) W fun e w'=>e = .returned (.bool (f t))/\Below W.heap.size W w') :
  Calls Tryz.prog 187 #[v,.func (.func g) #[pb] #[]] w fun e w'=>∃ i:Int,e = .returned (.int .i64 i)/\q2s L f i/\Below w.heap.size w w':=by
 obtain⟨a,len,cap,rfl,h1,h2,h3,h4,h5⟩:=h;unfold maxLen at h2;rw[xl] at h3;have hl:L.length=len:=by omega
 clear h3;have Hl:=lhd hl;clear hl;have H4:=lhd h4;clear h4;have H5:=lhd h5;clear h5;have HF:=lhd hf;clear hf;go_enter Tryz.func187,Tryz.ntmps187;go_wp2;go_loopw [5,8] (fun _ i wr=>∃ k:Nat,i = .int .i64 k/\k<=len/\Hid (∀ t∈L.take k,f t=false)/\Below w.heap.size w wr) (fun _ i _=>len - (vI i).toNat)
 case atStart=>exact⟨0,rfl,gp _,(show Hid _ from fun t ht=>by simp at ht),Below.refl _ _⟩
 case round =>
  obtain⟨k,rfl,hk,HN,hB⟩:=hrel;by_cases hlt:k < len
  ·obtain⟨ad,rfl⟩ : ∃ ad,a=some ad:=by
    cases a with
    | none=>have:=H4.out rfl;omega
    | some ad=>exact⟨ad,rfl⟩
   obtain⟨t,ht⟩ : ∃ t,L[k]? = some t:=⟨_,g8 (by rw[Hl.out];exact hlt)⟩
   have e0:(ints L)[k]? = some (.int .i64 t):=by simp[ints,ht]
   have d0:wr.cell? (ad.add k)=some (.int .i64 t):=q8 hB (H5.out ad rfl _ _ e0);have af:=HF.out wr hB t (gh ht);have HC:=lhd af;have HT:=lhd ht;clear e0 ht af;go_wp2_with fail;refine HC.out.mono ?_;rintro e w2 ⟨rfl,ao⟩;by_cases hft:f t=true
   ·have eL:=lhd hft;rw[hft];go_wp2;go_ret;exact⟨k,rfl,.inr ⟨k,t,rfl,HT.out,eL.out,HN.out⟩,hB.trans (ao.mono hB.size)⟩
   ·have lj:f t=false:=by simpa using hft
    have eL:=lhd lj;rw[lj];clear hft lj;go_wp2;go_roundw
    case measure=>simp[vI];omega
    case rel =>
     refine⟨k+1,qh (by omega),by omega,(show Hid _ from fun u hu=>?_),hB.trans (ao.mono hB.size)⟩;rw[gq,HT.out] at hu;rcases gH.1 hu with hu | hu
     ·exact HN.out u hu
     ·simp at hu;rw[hu];exact eL.out
  ·have bG:k=len:=by omega
   have eG:=lhd bG;clear bG;go_wp2;go_ret;refine⟨-1,rfl,.inl ⟨rfl,?_⟩,hB⟩;have hn:=HN.out;rw[gm (by rw[Hl.out,eG.out];exact nlr _)] at hn;exact hn
theorem qly (base:Nat) (v:Value) (L:List Int) (g:Nat) (pb:Value) (f:Int->Bool) (w:World) (h:w.ownsRow base 3 1 v L.length (ints L)) (hlen:L.length<=1099511627776)
  (eg:∀ args w,(callFunc g args).run Tryz.prog w = .ok (.enter g args) w) (hf:∀ W,Gs (fun b=>v.ownBlock=some b) w W->∀ t∈L,Calls Tryz.prog g (#[pb,.int .i64 t]) W fun e w'=>e = .returned (.bool (f t))/\Below W.heap.size W w') :
  Calls Tryz.prog 160 #[v,.func (.func g) #[pb] #[]] w fun e w'=>∃ r,e = .returned r/\w'.ownsRow base 3 1 r (L.filter fun t=>!f t).length (ints (L.filter fun t=>!f t))/\Gs (fun b=>v.ownBlock=some b) w w':=by
 have iG:=qlx v L g pb f w (Sl.qc h) eg (fun W hW t ht=>hf W (Gs.xh hW) t ht);have HI:=lhd iG;have HF:=lhd hf;have HR:=lhd h;obtain⟨a,cap,rfl⟩:=qj h;obtain⟨len,hl⟩ : ∃ len,len=L.length:=⟨_,rfl⟩
 rw[<-hl] at HI HF HR hlen ⊢;have HL:=lhd hl;clear iG hf h hl;go_enter Tryz.func160,Tryz.ntmps160;go_wp2_with fail;refine HI.out.mono ?_;rintro e w1 ⟨i0,rfl,hi0,aj⟩;have aV:=lhd aj;rcases hi0 with ⟨rfl,aI⟩ | ⟨k,t0,rfl,hk,ht,iH⟩
 ·have HA:=lhd aI;clear aI aj;go_wp2_with fail;go_ret;have he:(L.filter fun t=>!f t)=L:=List.filter_eq_self.2 fun u hu=>by rw[HA.out u hu];rfl
  rw[he,<-HL.out];exact⟨_,rfl,qa HR.out aV.out,Gs.xh aV.out⟩
 ·have aZ:k < len:=by rw[HL.out];exact(ge.1 hk).1
  obtain⟨b,dc⟩ : ∃ b,a=some ⟨b,0,none⟩:=by
   rcases HR.out.2 with ⟨h0,_⟩ | ⟨b,c',cur,he,_⟩
   ·cases h0;omega
   ·exact⟨b,by cases he;rfl⟩
  subst dc;have cU:=Sft.start (f:=f) hk ht iH;have pS:((k:Int) == -1)=false:=by simp
  have DV:=lhd cU;have dt:len<=cap/\cap<=maxLen:=by
   obtain⟨h1,h2,_⟩:=(Sl.qc HR.out).open;exact⟨h1,h2⟩
  obtain⟨wM,lM⟩:=dt;unfold maxLen at lM;have cZ:=qa HR.out aV.out;have cE:=lhd cZ;clear hk ht iH aj cU cZ;go_wp2_with fail;go_loopw [5,6] (fun x5 x6 wr=>∃ (i j:Nat) (X:List Int),x5 = .int .i64 i/\x6 = .int .i64 j/\j<=len/\i < j/\Hid (Sft f L X i j)/\Hid (wr.ownsRow base 3 1 (.slice (some ⟨b,0,none⟩) len cap) len (ints X))/\Gs (fun c=>c=b) w wr) (fun _ x6 _=>len - (vI x6).toNat)
  case atStart=>exact⟨k,k+1,L,rfl,qh (by omega),by omega,by omega,DV.out,cE.out,Gs.xh aV.out⟩
  case round =>
   obtain⟨i,j,X,rfl,rfl,hj,iB,HS,HX,hG⟩:=hrel;have o3:Gs (fun c=>(Value.slice (some ⟨b,0,none⟩) len cap).ownBlock=some c) w wr:=hG.mono fun c _ hc=>by rw[hc];rfl
   by_cases hlt:j < len
   ·obtain⟨t,ht⟩ : ∃ t,L[j]? = some t:=⟨_,g8 (by rw[<-HL.out];exact hlt)⟩
    have wN:X[j]? = some t:=HS.out.get.trans ht;obtain⟨u,hu⟩ : ∃ u,X[i]? = some u:=⟨_,g8 (by rw[HS.out.len,<-HL.out];omega)⟩
    have aD:=fun q=>(HX.out.cellAt q)
    have db:=HX.out.frozenAt;have e0:(ints X)[j]? = some (.int .i64 t):=by simp[ints,wN]
    have d0:wr.cell? ⟨b,j,none⟩=some (.int .i64 t):=by rw[aD _ (by omega),e0]
    have o0:(ints X)[i]? = some (.int .i64 u):=by simp[ints,hu]
    have p0:wr.cell? ⟨b,i,none⟩=some (.int .i64 u):=by rw[aD _ (by omega),o0]
    clear e0 o0;have af:=HF.out wr o3 t (gh ht);have HC:=lhd af;have HT:=lhd ht;have P0:=lhd o3;clear af ht wN hu aD db o3;cases hft:f t with
    | true =>
     have eL:=lhd hft;rw[hft] at HC;clear hft;go_wp2_with fail;refine HC.out.mono ?_;rintro e w2 ⟨rfl,ao⟩;have bY:Below wr.heap.size wr w2:=ao;have dG:Gs (fun c=>c=b) w w2:=hG.then (S':=fun _=>False) (Gs.xh bY) (fun _ h=>h.elim);have dM:Hid (w2.ownsRow base 3 1 (.slice (some ⟨b,0,none⟩) len cap) len (ints X)):=qa HX.out bY;clear ao bY;go_wp2_with fail;go_roundw
     case measure=>simp[vI];omega
     case rel=>exact⟨i,j+1,X,rfl,qh (by omega),by omega,by omega,HS.out.skip HT.out eL.out,dM,dG⟩
    | false =>
     have eL:=lhd hft;rw[hft] at HC;clear hft;go_wp2_with fail;refine HC.out.mono ?_;rintro e w2 ⟨rfl,ao⟩;have bY:Below wr.heap.size wr w2:=ao;have dG:Gs (fun c=>c=b) w w2:=hG.then (S':=fun _=>False) (Gs.xh bY) (fun _ h=>h.elim);have dM:Hid (w2.ownsRow base 3 1 (.slice (some ⟨b,0,none⟩) len cap) len (ints X)):=qa HX.out bY;have f0:=dM.out.frozenAt i
     replace p0:=Cx.q8 bY p0
     clear ao bY;go_wp2_with fail;go_roundw
     case measure=>simp[vI];omega
     case rel=>exact⟨i+1,j+1,X.set i t,qh (by omega),qh (by omega),by omega,by omega,HS.out.put HT.out eL.out,by have:=(dM.out.stored i (.int .i64 t)).1;rw[show (ints X).set i (.int .i64 t)=ints (X.set i t) from by simp[ints,List.map_set]] at this;exact this,dG.grown (dM.out.stored i (.int .i64 t)).2 (fun k e=>by cases e;exact .inr rfl)⟩
   ·have dC:j=len:=by omega
    have aD:=fun q=>(HX.out.cellAt q)
    have db:=HX.out.frozenAt;have fB:=HX.out.1;obtain⟨zs,l8⟩:=qe9 wr b (i) (len - i) (cap - i) (by omega) (fun q hq=>by rw[aD _ (by omega),g8 (by rw[fB];omega)];rfl) (fun q hq=>db _);have aq:¬ cap=i:=by omega
    have HJ:=lhd dC;have HZ:=lhd (ku zs (i) HX.out);have ej:(i:Int)<=(len:Int):=by omega
    have hi0:(0:Int)<=(i:Int):=by omega
    clear aD db fB dC o3;go_wp2_with fail;go_ret;obtain⟨⟨ys,hy,rN⟩,nf⟩:=HZ.out;have ee:=HS.out.low;rw[HJ.out,HL.out,List.take_length] at ee;have qT:(L.filter fun t=>!f t).length=i:=by rw[<-ee,gd,HS.out.len,<-HL.out];omega
    refine⟨_,rfl,?_,(hG.trans nf).mono fun c _ hc=>by rw[hc];rfl⟩;have aC:=q93 hy (i:=i) (by omega);rw[gM,rN,q6k,ee] at aC;rw[qT];exact aC
end Go.Proofs.YtlhicnfeajejhaaGreatDoor
namespace Go.Cx
open Go.Proofs.YtlhicnfeajejhaaGreatDoor
noncomputable def mhi (K:List Cl) (ps:List (Int×Int)):Int->Int:=((xk (canon K) zz zz ps).getD (zz,zz)).1
noncomputable def mlo (K:List Cl) (ps:List (Int×Int)):Int->Int:=((xk (canon K) zz zz ps).getD (zz,zz)).2
noncomputable def yt (K:List Cl) (ps:List (Int×Int)) (dim:Int):List Int:=if opE K ps=0 then q27 (canon K) (mhi K ps) (mlo K ps) dim else []
noncomputable def q4t (K:List Cl) (ps:List (Int×Int)) (f:Int->Int):Int->Int:=if opE K ps=0 then q85 (canon K) (mhi K ps) (mlo K ps) f else zz
noncomputable def upX (K:List Cl) (ps:List (Int×Int)) (c:Int):Int->Int:=if opE K ps=0/\jv (canon K) c=true/\pdB (mhi K ps) (mlo K ps) c=false then upF (canon K) (mhi K ps) c else zz
end Go.Cx
namespace Go.Proofs.YtlhicnfeajejhaaGreatDoor
open Go.Cx Go.RowKit
theorem Opn.fm {w w':World} {K:List Cl} {ps:List (Int×Int)} {T:Nat} (h:Opn w w' K ps T) (hc:chk K=(0,0)) :
  ∃ (BS BH BL:Nat) (nb:Int->Nat) (a:Option Addr) (n c:Nat) (mm:List Ce),Fm w' T BS BH BL nb a n c mm (canon K) ps.length (mhi K ps) (mlo K ps)/\w.heap.size<=T/\w.heap.size<=BS/\w.heap.size<=BH/\w.heap.size<=BL:=by
 obtain⟨BS,BH,BL,nb,a,n,c,mm,hi,lo,h1,h2,h3,h4,h5,h6,h7,h8,h9⟩:=h.ex;have e1:mhi K ps=hi:=by unfold mhi;rw[h6];rfl
 have e2:mlo K ps=lo:=by unfold mlo;rw[h6];rfl
 exact⟨BS,BH,BL,nb,a,n,c,mm,⟨h1,h2,q0d hc,h3,e1 ▸ e2 ▸ h7,e1 ▸ h8,e1 ▸ h4,e2 ▸ h5⟩,h9⟩
theorem qof {w:World} {T BS BH BL n c N:Nat} {nbf:Int->Nat} {a:Option Addr} {mm:List Ce} {K:List Cl} {hi lo:Int->Int} (hF:Fm w T BS BH BL nbf a n c mm K N hi lo) (dim:Int) :
  Calls Tryz.prog 109 #[.pointer (some ⟨T,0,none⟩),.int .i64 dim] w fun e w'=>∃ r,e = .returned r/\w'.ownsRow w.heap.size 3 1 r (q27 K hi lo dim).length (ints (q27 K hi lo dim))/\Below w.heap.size w w':=by
 have q0:=hF.fld.t0;have hl:mm.length<=4000:=by have:=hF.good.len;rw[<-hF.cl,gn] at this;exact this
 have HF:=lhd hF;clear hF;go_enter Tryz.func109,Tryz.ntmps109;go_wp2_with fail;refine(qow _ mm dim w HF.out.fld.row (by omega) HF.out.ok).mono ?_;rintro e w1 ⟨r,rfl,aC,ak⟩;rw[HF.out.cl] at aC;obtain⟨A9,BZ,EN,rfl⟩:=qg (Sl.qc aC);have Ff:∀ t∈q04 K dim,I64 t:=fun t ht=>by
  unfold q04 at ht;rw[show cellsOf K=K by
   have h1:canon K=K:=q1j HF.out.good.asc fun x hx=>(HF.out.good.sasc x hx).imp fun h=>by omega
   unfold cellsOf;rw[h1,q08 HF.out.good.asc]] at ht
  obtain⟨x,hx,rfl⟩:=go.1 ht;exact q4s HF.out.cl HF.out.ok (gI (gL.1 hx).1)
 have ej:(q04 K dim).length<=1099511627776:=by
  unfold q04;rw[gn];refine gl (gR _ _) ?_;rw[show cellsOf K=K by
   have h1:canon K=K:=q1j HF.out.good.asc fun x hx=>(HF.out.good.sasc x hx).imp fun h=>by omega
   unfold cellsOf;rw[h1,q08 HF.out.good.asc]]
  have:=HF.out.good.len;omega
 have lS:=qly w.heap.size (.slice A9 BZ EN) (q04 K dim) 110 (.pointer (some ⟨T,0,none⟩)) (fun t=>pdB hi lo t) w1 aC ej Tryz.call110 (fun U hU t ht=>by
  have dU:Below w.heap.size w1 U:=hU.below ak.size fun b hb=>(aC.lt b hb).1
  have k3:=HF.out.q8 (ak.trans dU);exact(q2a T BH BL N N hi lo t U k3.fld.t2 k3.fld.t3 k3.mH k3.mL (Ff t ht)).mono fun e w' ⟨h1,h2⟩=>⟨h1,h2 ▸ Below.refl _ _⟩)
 have lT:=lhd lS;have HR:=lhd (aiq aC ak);clear lS aC ak Ff ej;go_wp2_with fail;refine lT.out.mono ?_;rintro e w2 ⟨r2,rfl,cN,dG⟩;obtain⟨Me,Mf,Mg,rfl⟩:=qg (Sl.qc cN);have H4:=lhd (aiq cN dG);clear cN dG lT;go_wp2_with fail;go_ret;exact⟨_,rfl,H4.out.1,HR.out.2.trans (H4.out.2.below HR.out.2.size fun b hb=>(HR.out.1.lt b hb).1)⟩
section
variable (v pvv:Value) (l:List Ce) (ps:List (Int×Int)) (w:World) (h:SlC w v l) (hl:l.length<=1099511627776) (hok:COk l) (hp:Sl w 2 pvv (pv ps)) (hpI:∀ p∈ps,I64 p.1/\I64 p.2)
include h hl hok hp hpI
theorem qlz:Calls Tryz.prog 43 #[.agg #[v],pvv] w fun e w'=>e = .returned (.int .i64 (opE (l.map Ce.cl) ps))/\Below w.heap.size w w':=by
 obtain⟨a,len,cap,rfl⟩:=qg h.1;obtain⟨a1,eM,jJ,rfl⟩:=qg hp;have hB:Below w.heap.size w (w.alloc (.cells #[.slice a len cap] 26)):=(Below.refl _ w).alloc (nlr _) _;have hc:=q6s (.slice a len cap) (.slice a1 eM jJ) l ps _ (h.q8 hB) hl hok (hp.q8 hB) hpI;have HC:=lhd hc;have HB:=lhd hB;clear hc hB h hl hok hp hpI;go_enter Tryz.func43,Tryz.ntmps43;go_wp2_with fail;refine HC.out.mono ?_;rintro e w1 ⟨ak,hr⟩;have aV:=lhd (HB.out.trans (ak.mono HB.out.size));clear ak;rcases hr with ⟨E,h1,rfl,h2⟩ | ⟨h2,h3,T,rfl,h4⟩
 ·have H:=lhd (aiq h1 h2);clear h1 h2;go_wp2_with fail;go_ret;exact⟨by rw[H.out.2];rfl,aV.out⟩
 ·have H:=lhd h2;clear h2 h3 h4;go_wp2_with fail;go_ret;exact⟨by rw[H.out];rfl,aV.out⟩
theorem qcv (dim:Int):Calls Tryz.prog 45 #[.agg #[v],pvv,.int .i64 dim] w fun e w'=>∃ r,e = .returned r/\w'.ownsRow w.heap.size 3 1 r (yt (l.map Ce.cl) ps dim).length (ints (yt (l.map Ce.cl) ps dim))/\Below w.heap.size w w':=by
 obtain⟨a,len,cap,rfl⟩:=qg h.1;obtain⟨a1,eM,jJ,rfl⟩:=qg hp;have hB:Below w.heap.size w (w.alloc (.cells #[.slice a len cap] 26)):=(Below.refl _ w).alloc (nlr _) _;have hc:=q6s (.slice a len cap) (.slice a1 eM jJ) l ps _ (h.q8 hB) hl hok (hp.q8 hB) hpI;have HC:=lhd hc;have HB:=lhd hB;clear hc hB h hl hok hp hpI;go_enter Tryz.func45,Tryz.ntmps45;go_wp2_with fail;refine HC.out.mono ?_;rintro e w1 ⟨ak,hr⟩;have aV:=lhd (HB.out.trans (ak.mono HB.out.size));clear ak;rcases hr with ⟨E,h1,rfl,h2⟩ | ⟨h2,h3,T,rfl,h4⟩
 ·have hb:(E != 0)=true:=by simpa using h1
  have H:=lhd (aiq h1 h2);clear h1 h2;go_wp2_with fail;go_ret;refine⟨_,rfl,?_,aV.out⟩;unfold yt;rw[H.out.2,if_neg H.out.1];exact World.ownsRow_nil _ _ _ _
 ·obtain⟨BS,BH,BL,nb,a2,n,c,mm,hF,_⟩:=h4.fm h3;have H:=lhd (aiq h2 hF);clear h2 h3 h4 hF;go_wp2_with fail;refine(qof H.out.2 dim).mono ?_;rintro e w2 ⟨r,rfl,hr,ar⟩;obtain⟨Me,Mf,Mg,rfl⟩:=qg (Sl.qc hr);have H2:=lhd (aiq hr ar);clear hr ar;go_wp2_with fail;go_ret;refine⟨_,rfl,?_,aV.out.trans (H2.out.2.mono aV.out.size)⟩;unfold yt;rw[if_pos H.out.1];exact qf H2.out.1 aV.out.size
theorem qm0 (u:Value) (t:List Tm) (S:Nat) (hu:Sl w 3 u (tv t)) (hS:TOk S t) (wT:S+t.length<=1000000000):Calls Tryz.prog 51 #[.agg #[v],pvv,u] w fun e w'=>∃ r L,e = .returned r/\Cn L/\co L=q4t (l.map Ce.cl) ps (co (prs t))/\w'.ownsRow w.heap.size 71 3 r L.length (tv (ctm L))/\(∀ d,co L d≠0->d∈(canon (l.map Ce.cl)).map Cl.id)/\(∀ d,nb (co L d)<=S+t.length+4003)/\Below w.heap.size w w':=by
 obtain⟨a,len,cap,rfl⟩:=qg h.1;obtain⟨a1,eM,jJ,rfl⟩:=qg hp;obtain⟨a3,WN,WO,rfl⟩:=qg hu;have hB:Below w.heap.size w (w.alloc (.cells #[.slice a len cap] 26)):=(Below.refl _ w).alloc (nlr _) _;have hc:=q6s (.slice a len cap) (.slice a1 eM jJ) l ps _ (h.q8 hB) hl hok (hp.q8 hB) hpI;have HC:=lhd hc;have HB:=lhd hB;have HU:=lhd (aiq hu (aiq hS wT));clear hc hB h hl hok hp hpI hu hS wT;go_enter Tryz.func51,Tryz.ntmps51;go_wp2_with fail;refine HC.out.mono ?_;rintro e w1 ⟨ak,hr⟩;have aV:=lhd (HB.out.trans (ak.mono HB.out.size));clear ak;rcases hr with ⟨E,h1,rfl,h2⟩ | ⟨h2,h3,T,rfl,h4⟩
 ·have hb:(E != 0)=true:=by simpa using h1
  have H:=lhd (aiq h1 h2);clear h1 h2;go_wp2_with fail;go_ret;refine⟨_,[],rfl,Cn.nil,?_,World.ownsRow_nil _ _ _ _,fun d hd=>absurd rfl hd,fun d=>by rw[show co ([] : List (Int×Int)) d=0 from rfl,q0g];omega,aV.out⟩;unfold q4t;rw[H.out.2,if_neg H.out.1];rfl
 ·obtain⟨BS,BH,BL,nb,a2,n,c,mm,hF,_⟩:=h4.fm h3;have H:=lhd (aiq h2 hF);clear h2 h3 h4 hF;go_wp2_with fail;refine(qoe H.out.2 _ t S (HU.out.1.q8 aV.out) HU.out.2.1 HU.out.2.2).mono ?_;rintro e w2 ⟨r,L,rfl,k1,k2,k3,k4,k5,ar⟩;obtain⟨Me,Mf,Mg,rfl⟩:=qg (Sl.qc k3);have H2:=lhd (aiq k1 (aiq k2 (aiq k3 (aiq k4 (aiq k5 ar)))));clear k1 k2 k3 k4 k5 ar;go_wp2_with fail;go_ret;obtain⟨k1,k2,k3,k4,k5,ar⟩:=H2.out;refine⟨_,L,rfl,k1,?_,qf k3 aV.out.size,k4,k5,aV.out.trans (ar.mono aV.out.size)⟩;unfold q4t;rw[if_pos H.out.1];exact k2
end
theorem qpf (v pvv:Value) (l:List Ce) (ps:List (Int×Int)) (w:World) (h:SlC w v l) (hl:l.length<=1099511627776) (hok:COk l) (hp:Sl w 2 pvv (pv ps)) (hpI:∀ p∈ps,I64 p.1/\I64 p.2) (id:Int) (hid:I64 id) :
  Calls Tryz.prog 46 #[.agg #[v],pvv,.int .i64 id] w fun e w'=>∃ r L,e = .returned r/\Cn L/\co L=upX (l.map Ce.cl) ps id/\w'.ownsRow w.heap.size 71 3 r L.length (tv (ctm L))/\(∀ d,co L d≠0->d∈(canon (l.map Ce.cl)).map Cl.id)/\(∀ d,nb (co L d)<=5000)/\Below w.heap.size w w':=by
 obtain⟨a,len,cap,rfl⟩:=qg h.1;obtain⟨a1,eM,jJ,rfl⟩:=qg hp;have hB:Below w.heap.size w (w.alloc (.cells #[.slice a len cap] 26)):=(Below.refl _ w).alloc (nlr _) _;have hc:=q6s (.slice a len cap) (.slice a1 eM jJ) l ps _ (h.q8 hB) hl hok (hp.q8 hB) hpI;have HC:=lhd hc;have HB:=lhd hB;have HI:=lhd hid;clear hc hB h hl hok hp hpI;obtain⟨K0,hK0⟩ : ∃ K0,K0=l.map Ce.cl:=⟨_,rfl⟩
 rw[<-hK0] at HC ⊢;have o6:∀ (w1:World),Below w.heap.size w w1->upX K0 ps id=zz->∃ r L,Ending.returned (.slice none 0 0) = .returned r/\Cn L/\co L=upX K0 ps id/\w1.ownsRow w.heap.size 71 3 r L.length (tv (ctm L))/\(∀ d,co L d≠0->d∈(canon K0).map Cl.id)/\(∀ d,nb (co L d)<=5000)/\Below w.heap.size w w1:=fun w1 hb hz=>⟨_,[],rfl,Cn.nil,hz.symm,World.ownsRow_nil _ _ _ _,fun d hd=>absurd rfl hd,fun d=>by rw[show co ([] : List (Int×Int)) d=0 from rfl,q0g];omega,hb⟩
 have Mh:=lhd o6;clear o6 hK0 hid;go_enter Tryz.func46,Tryz.ntmps46;go_wp2_with fail;refine HC.out.mono ?_;rintro e w1 ⟨ak,hr⟩;have aV:=lhd (HB.out.trans (ak.mono HB.out.size));clear ak;rcases hr with ⟨E,h1,rfl,h2⟩ | ⟨h2,h3,T,rfl,h4⟩
 ·have hb:(E != 0)=true:=by simpa using h1
  have H:=lhd (aiq h1 h2);clear h1 h2;go_wp2_with fail;go_ret;exact Mh.out _ aV.out (by unfold upX;rw[if_neg];intro hh;rw[H.out.2] at hh;exact H.out.1 hh.1)
 obtain⟨BS,BH,BL,QV,a2,n,c,mm,hF,_⟩:=h4.fm h3;have q0:=hF.fld.t0;have q1:=hF.fld.t1;have cP:=q29 w1 hF.fld.sid.top HI.out;rw[hF.cl] at cP;have qe:=qiw;have uJ:=q2a T BH BL ps.length ps.length (mhi K0 ps) (mlo K0 ps) id w1 hF.fld.t2 hF.fld.t3 hF.mH hF.mL HI.out;have Mi:=lhd uJ;have H:=lhd (aiq h2 hF);clear h2 h3 h4 hF uJ;by_cases hh:jv (canon K0) id=true
 case neg =>
  have hh:jv (canon K0) id=false:=by simpa using hh
  rw[hh,if_neg (by simp)] at cP;have HH:=lhd hh;clear hh;go_wp2_with fail;go_ret;exact Mh.out _ aV.out (by unfold upX;rw[if_neg];intro hx;rw[HH.out] at hx;cases hx.2.1)
 rw[hh,if_pos rfl] at cP;have HH:=lhd hh;clear hh;obtain⟨pd,AF⟩ : ∃ pd,pd=pdB (mhi K0 ps) (mlo K0 ps) id:=⟨_,rfl⟩
 rw[<-AF] at Mi;have QW:=lhd AF;clear AF;cases pd with
 | true =>
  go_wp2_with fail;refine Mi.out.mono ?_;rintro e w2 ⟨rfl,rfl⟩;go_wp2_with fail;go_ret;exact Mh.out _ aV.out (by unfold upX;rw[if_neg];intro hx;rw[<-QW.out] at hx;cases hx.2.2)
 | false =>
  go_wp2_with fail;refine Mi.out.mono ?_;rintro e w2 ⟨rfl,ig⟩;have ig:=ig.symm;subst ig;clear cP;go_wp2_with fail;refine(qgv 1 _ (by decide) (by decide)).mono ?_;rintro e w3 ⟨rfl,aO⟩;have hs:=q13 w3 71 3 [.int .i64 id,.bool (decide ((1:Int) < 0)),.string (mg 1)] 1 rfl (by unfold maxLen;omega);have HS:=lhd hs;have eP:=lhd aO;have p0:=Cx.q8 aO q0;have WQ:=qk p0 (.cells #[.int .i64 id,.bool false,.string (mg 1)] 71);clear hs aO q0 q1;unfold wv;go_upto_region 5 with fail;have hG:=H.out.2.good;have eQ:Sl (w3.alloc (.cells #[.int .i64 id,.bool false,.string (mg 1)] 71)) 3 (.slice (some ⟨w3.heap.size,0,none⟩) 1 1) (tv (ctm [(id,1)])):=HS.out;obtain⟨w4,uB⟩ : ∃ w4,w4=w3.alloc (.cells #[.int .i64 id,.bool false,.string (mg 1)] 71):=⟨_,rfl⟩
  have B4:Below w1.heap.size w1 w4:=by rw[uB];exact eP.out.alloc eP.out.size _
  rw[<-uB] at eQ WQ ⊢;have Mj:=H.out.2.q8 B4;have dZ:TOk 1 (ctm [(id,1)]):=LOk.tok fun p hp=>by
   have:p=(id,1):=by simpa using hp
   rw[this];exact⟨HI.out,q31 1 1 (by decide)⟩
  have lQ:(zk mm).length<=256000:=by rw[q2q,Mj.cl];exact q6v hG
  have HX:=lhd (aiq eQ (aiq B4 (aiq Mj (aiq dZ (aiq lQ hG)))));clear eQ B4 Mj dZ lQ hG uB HS eP p0;go_wp2_with fail;refine(q5y _ mm _ (ctm [(id,1)]) 1 w4 HX.out.2.2.1.fld.row HX.out.2.2.1.ok HX.out.1 HX.out.2.2.2.1 (by rw[qz];have:=HX.out.2.2.2.2.1;show _+1+_<=_;omega)).mono ?_;rintro e w5 ⟨r5,rfl,⟨Lb,QX,QY,WR,AG⟩,cT⟩;obtain⟨v5,n5,c5,rfl⟩:=qg (Sl.qc AG);have ew:co Lb=bdD (canon K0) id 1:=funext fun d=>by
   rw[QY,zv,vg,q2q,HX.out.2.2.1.cl];rfl
  have hG:=HX.out.2.2.2.2.2;have sx:=HX.out.2.2.1.q8 cT;have Mk:In0 (canon K0) (co Lb):=by rw[ew];exact qcu hG id 1
  have QZ:∀ d,nb (co Lb d)<=1:=fun d=>by rw[ew];exact qod hG id d
  obtain⟨M,sw⟩:=q9f hG sx.mtc sx.ac Mk;obtain⟨Wt,Fc⟩:=qct hG sx.mtc sx.ac;have fN:=qei sx.fld sx.cl hG sx.ok sx.mtc sx.mH Fc w4.heap.size _ Lb AG cT.size QX Mk 1 QZ (by omega) M sw;rw[ew] at fN;have AH:=lhd fN;have HY:=lhd (aiq cT sx);clear fN sw Fc QX QY WR AG cT ew hG sx Mk QZ;go_wp2_with fail;refine AH.out.mono ?_;rintro e w6 ⟨r1,r2,L1,L2,rfl,cZ,Ml,Mm,er,lU,jK,hi1,hi2,fX,dR⟩;obtain⟨v6,n6,c6,rfl⟩:=qg (Sl.qc cZ);obtain⟨v7,n7,c7,rfl⟩:=qg er;have AI:In0 (canon K0) (co L2):=by rw[jK];exact hi2
  have pF:∀ d,nb (co L2 d)<=4004:=fun d=>by rw[jK];have:=(fX d).2;omega
  have sq:TOk 4004 (ctm L2):=q9i H.out.2.cl H.out.2.ok lU AI pF;have l2:=q6u lU AI;have hlen:=HX.out.2.2.2.2.2.len;have HZ:=lhd (aiq lU (aiq jK (aiq er (aiq hi2 (aiq pF (aiq sq (aiq l2 (aiq hlen dR))))))));clear cZ Ml Mm er lU jK hi1 hi2 fX dR AI pF sq l2 hlen AH;go_wp2_with fail;have AJ:Below w4.heap.size w4 w6:=HY.out.1.trans (HZ.out.2.2.2.2.2.2.2.2.mono HY.out.1.size);refine(qbw _ _ (ctm [(id,1)]) (ctm L2) 4004 w6 (HX.out.1.q8 AJ) HZ.out.2.2.1 (HX.out.2.2.2.1.mono (by omega)) HZ.out.2.2.2.2.2.1 (by rw[qz,qz];have:=HZ.out.2.2.2.2.2.2;show _+1+_<=_;omega)).mono ?_;rintro e w7 ⟨r8,rfl,⟨L8,xJ,tC,WS,iK⟩,mV⟩;obtain⟨v8,n8,c8,rfl⟩:=qg (Sl.qc iK);have HW:=lhd (aiq xJ (aiq tC (aiq iK mV)));have Mn:=lhd AJ;clear xJ tC WS iK mV AJ;go_wp2_with fail;go_ret;obtain⟨xJ,tC,iK,mV⟩:=HW.out;have e8:co L8=upF (canon K0) (mhi K0 ps) id:=funext fun d=>by
   rw[tC,zv,zv,vg,HZ.out.2.1];rfl
  have qD:Below w.heap.size w w6:=aV.out.trans ((HX.out.2.1.trans (Mn.out.mono HX.out.2.1.size)).mono aV.out.size);have sy:id∈(canon K0).map Cl.id:=by
   obtain⟨x,hx,he⟩:=List.any_eq_true.1 HH.out;have he:x.id=id:=by simpa using he
   exact he ▸ gI hx
  refine⟨_,L8,rfl,xJ,?_,qf iK qD.size,fun d hd=>?_,fun d=>?_,qD.trans (mV.mono qD.size)⟩
  ·rw[e8];unfold upX;rw[if_pos ⟨H.out.1,HH.out,QW.out.symm⟩]
  ·rw[tC,zv,zv,vg] at hd;by_cases h0:d=id
   ·rw[h0];exact sy
   ·have:co L2 d≠0:=fun e=>hd (by rw[e];unfold qw;rw[if_neg h0];rfl)
    rw[HZ.out.2.1] at this;exact HZ.out.2.2.2.1 d this
  ·rw[tC,zv,zv,vg];have h1:=qbn (qw id 1 d) (co L2 d);have h2:=HZ.out.2.2.2.2.1 d;have h3:nb (qw id 1 d)<=1:=by
    unfold qw;split
    ·exact q31 _ _ (by decide)
    ·rw[q0g];omega
   omega
end Go.Proofs.YtlhicnfeajejhaaGreatDoor
