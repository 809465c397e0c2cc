/- Steps towards MorseParts. Conditions: none. -/
import Derived.Test.YtlhicnfeajejhaaGreatDoorGQi
set_option maxRecDepth 1000000
set_option maxHeartbeats 16000000
namespace Go.Cx
theorem q6w (f:Int->Bool) (L:List (Int×Int)):(ctm L).filter (fun t=>f t.c)=ctm (L.filter fun p=>f p.1):=by unfold ctm;rw[List.filter_map];rfl
theorem q88 {L:List (Int×Int)} (h:Cn L) (f:Int->Bool):Cn (L.filter fun p=>f p.1):=⟨h.1.filter _,fun p hp=>h.2 p (gK.1 hp).1⟩
theorem q2w (L:List (Int×Int)) (f:Int->Bool) (c:Int):co (L.filter fun p=>f p.1) c=if f c then co L c else 0:=by
 induction L with
 | nil=>split <;> rfl
 | cons p L ih =>
  rw[List.filter_cons,jh];by_cases hp:f p.1=true
  ·rw[if_pos hp,jh,ih];by_cases hc:p.1=c
   ·subst hc;rw[if_pos rfl,if_pos hp,if_pos hp]
   ·rw[if_neg hc];split <;> omega
  ·rw[if_neg hp,ih];by_cases hc:p.1=c
   ·subst hc;rw[if_neg hp,if_neg hp]
   ·rw[if_neg hc];split <;> omega
end Go.Cx
namespace Go.Proofs.YtlhicnfeajejhaaGreatDoor
open Go.Cx Go.RowKit
structure Fm (w:World) (T BS BH BL:Nat) (nb:Int->Nat) (a:Option Addr) (n c:Nat) (mm:List Ce) (K:List Cl) (N:Nat) (hi lo:Int->Int):Prop where
 fld:Fld w T BS BH BL nb a n c mm
 cl:mm.map Ce.cl=K
 good:Cx.Good K
 ok:COk mm
 mtc:Mtc K hi lo
 ac:∀ a,¬ yp K hi a
 mH:MpI w BH N hi
 mL:MpI w BL N lo
theorem Fm.q8 {w w':World} {T BS BH BL:Nat} {nb:Int->Nat} {a:Option Addr} {n c:Nat} {mm:List Ce} {K:List Cl} {N:Nat} {hi lo:Int->Int} (h:Fm w T BS BH BL nb a n c mm K N hi lo) (hb:BwQ w w'):Fm w' T BS BH BL nb a n c mm K N hi lo :=
 ⟨h.fld.q8 hb,h.cl,h.good,h.ok,h.mtc,h.ac,h.mH.q8 hb,h.mL.q8 hb⟩
theorem qoe {w:World} {T BS BH BL n c N:Nat} {nbf:Int->Nat} {a:Option Addr} {mm:List Ce} {K:List Cl} {hi lo:Int->Int} (hF:Fm w T BS BH BL nbf a n c mm K N hi lo)
  (v:Value) (l:List Tm) (S:Nat) (hv:Sl w 3 v (tv l)) (hS:TOk S l) (mG:S+l.length<=1000000000) :
  Calls Tryz.prog 115 #[.pointer (some ⟨T,0,none⟩),v] w fun e w'=>∃ r L,e = .returned r/\Cn L/\co L=q85 K hi lo (co (prs l))/\w'.ownsRow w.heap.size 71 3 r L.length (tv (ctm L))/\In0 K (co L)/\(∀ d,nb (co L d)<=S+l.length+4003)/\BwQ w w':=by
 obtain⟨va,vn,vc,rfl⟩:=qg hv;have HF:=lhd hF;have HV:=lhd (aiq hv (aiq hS mG));clear hF hv hS mG;go_enter Tryz.func115,Tryz.ntmps115;go_wp2_with fail;obtain⟨W,hW⟩ : ∃ W:World,W=w.alloc (.cells #[.pointer (some ⟨T,0,none⟩)] 118):=⟨_,rfl⟩
 have bI:BwQ w W:=by rw[hW];exact bal w _
 have kb:W.cell? ⟨w.heap.size,0,none⟩=some (.pointer (some ⟨T,0,none⟩)):=by rw[hW];exact qd w #[.pointer (some ⟨T,0,none⟩)] 118 (0,0) 0
 obtain⟨bk,uO⟩ : ∃ bk,bk=w.heap.size:=⟨_,rfl⟩
 rw[<-uO] at kb ⊢;rw[<-hW];have kI:w.heap.size<=W.heap.size:=bI.size;have HW:=lhd (aiq bI kb);clear bI kb hW uO;refine(qdd _ l S W (HV.out.1.q8 HW.out.1) HV.out.2.1 (by have:=HV.out.2.2;omega)).mono ?_;rintro e w1 ⟨r,rfl,⟨L,iG,bK,kP,aA⟩,ak⟩;obtain⟨oQ,eU,oR,rfl⟩:=qg (Sl.qc aA);have dT:∀ d,nb (co L d)<=S+l.length:=fun d=>by
  rw[bK d];have:=q0y S (prs l) (q19 HV.out.2.1) d
  rwa [kq] at this
 have h5:L.length<=1099511627776:=by have:=HV.out.2.2;omega
 have QZ:∀ t∈ctm L,I64 t.c:=fun t ht=>by
  obtain⟨p,hp,rfl⟩:=gr.1 ht;have h1:co L p.1≠0:=by rw[zl iG.1 hp];exact iG.2 p hp
  rw[bK p.1] at h1;obtain⟨q,hq,e,_⟩:=qca h1;obtain⟨t,ht,rfl⟩:=gr.1 hq;obtain⟨i1,i2,_⟩:=HV.out.2.1 t ht;show I64 p.1;rw[<-e];exact⟨i1,i2⟩
 have fld:∀ U,BwQ W U->BwQ w U/\U.cell? ⟨bk,0,none⟩=some (.pointer (some ⟨T,0,none⟩))/\Fm U T BS BH BL nbf a n c mm K N hi lo:=fun U hU=>by have ej:BwQ w U:=(btr HW.out.1 hU);exact⟨ej,Cx.q8 hU HW.out.2,HF.out.q8 ej⟩
 have Da:=lhd fld;have nz:=qil W.heap.size (.slice oQ eU oR) (ctm L) 164 #[.pointer (some ⟨bk,0,none⟩)] (fun t=>!jv K t.c) w1 (by rw[qz];exact aA) (by rw[qz];exact h5) Tryz.call164 (fun U hU t ht=>by
  have ej:Below W.heap.size w1 U:=hU.below ak.size fun b hb=>(aA.lt b hb).1
  obtain⟨_,k2,k3⟩:=fld U (ak.trans ej);have:=qlu t bk T BS nbf (mm.map Ce.cl) U k2 k3.fld.t1 k3.fld.sid (QZ t ht)
  rwa [k3.cl] at this)
 have nC:=lhd nz;have HL:=lhd (aiq iG (aiq bK (aiq aA (aiq dT (aiq ak h5)))));clear nz iG bK aA dT fld kP QZ ak h5;go_wp2_with fail;refine nC.out.mono ?_;rintro e w2 ⟨r2,rfl,cZ,dF⟩;simp only [Bool.not_not] at cZ;rw[q6w (fun c=>jv K c),qz] at cZ;obtain⟨iG,bK,aA,dT,ak,h5⟩:=HL.out;have aw:Below W.heap.size w1 w2:=dF.below ak.size fun b hb=>(aA.lt b hb).1
 have wi:BwQ W w2:=ak.trans aw;obtain⟨dn,Me,eL⟩:=Da.out w2 wi;have eO:=q88 iG (fun c=>jv K c);have dG:co (L.filter fun p=>jv K p.1)=q1m K (co (prs l)):=by
  funext d
  rw[q2w];unfold q1m;rw[bK d]
 obtain⟨Zy,QU,QV,rfl⟩:=qg (Sl.qc cZ);obtain⟨L2,uG⟩ : ∃ L2,L2=L.filter fun p=>jv K p.1:=⟨_,rfl⟩
 rw[<-uG] at cZ eO dG;have hIn:In0 K (co L2):=by rw[dG];exact qit K _
 have iy:∀ d,nb (co L2 d)<=S+l.length:=fun d=>by
  rw[dG];unfold q1m;split
  ·rw[<-bK d];exact dT d
  ·rw[q0g];omega
 obtain⟨M,iO⟩:=q9f eL.good eL.mtc eL.ac hIn;obtain⟨Wt,oV⟩:=qct eL.good eL.mtc eL.ac;have cy:=qei eL.fld eL.cl eL.good eL.ok eL.mtc eL.mH oV W.heap.size _ L2 cZ wi.size eO hIn _ iy HV.out.2.2 M iO;have HC:=lhd cy;have H2:=lhd (aiq wi (aiq dn (aiq Me eL)));have FM:=lhd dG;clear cy wi dn eL iO oV iy hIn eO cZ dG uG aw dF iG bK aA dT ak h5 nC;go_wp2_with fail;refine HC.out.mono ?_;rintro e w3 ⟨r1,r3,L3,L4,rfl,dE,iz,eP,jG,Mj,Mk,rR,WL,lT,ar⟩;obtain⟨IK,wk,Ra,rfl⟩:=qg (Sl.qc dE);obtain⟨WM,WN,WO,rfl⟩:=qg jG;have oW:BwQ W w3:=(btr H2.out.1 ar);have FO:∀ t∈ctm L3,I64 t.c:=fun t ht=>by obtain⟨p,hp,rfl⟩:=gr.1 ht;exact q4s H2.out.2.2.2.cl H2.out.2.2.2.ok (rR p.1 (by rw[<-eP,zl iz.1 hp];exact iz.2 p hp))
 have xP:L3.length<=4000:=gl (q6u iz (by rw[eP];exact rR)) H2.out.2.2.2.good.len;have nz:=qil W.heap.size (.slice IK wk Ra) (ctm L3) 165 #[.pointer (some ⟨bk,0,none⟩)] (fun t=>pdB hi lo t.c) w3 (by rw[qz];exact dE) (by rw[qz];omega) Tryz.call165 (fun U hU t ht=>by
  have ej:Below W.heap.size w3 U:=hU.below oW.size fun b hb=>(dE.lt b hb).1
  obtain⟨_,k2,k3⟩:=Da.out U (oW.trans ej);exact qlv t bk T BH BL N N hi lo U k2 k3.fld.t2 k3.fld.t3 k3.mH k3.mL (FO t ht))
 have nC:=lhd nz;have H3:=lhd (aiq dE (aiq iz (aiq eP (aiq rR (aiq lT oW)))));clear nz dE iz eP rR lT oW FO xP jG Mj Mk WL ar;go_wp2_with fail;refine nC.out.mono ?_;rintro e w4 ⟨r4,rfl,lx,uF⟩;rw[q6w (fun c=>!pdB hi lo c),qz] at lx;obtain⟨Ml,Mm,Mn,rfl⟩:=qg (Sl.qc lx);have H4:=lhd (aiq lx uF);clear lx uF nC;go_wp2_with fail;go_ret;obtain⟨dE,iz,eP,rR,lT,oW⟩:=H3.out;obtain⟨lx,uF⟩:=H4.out;have aD:Below W.heap.size w3 w4:=uF.below oW.size fun b hb=>(dE.lt b hb).1
 have eW:∀ d,co (L3.filter fun p=>!pdB hi lo p.1) d=if pdB hi lo d then 0 else (q79 K hi (q1m K (co (prs l)))).1 d:=fun d=>by rw[q2w (f:=fun c=>!pdB hi lo c),eP,FM.out];cases pdB hi lo d <;> rfl
 refine⟨_,_,rfl,q88 iz (fun c=>!pdB hi lo c),funext eW,qf lx kI,fun d hd=>?_,fun d=>?_,(Da.out w4 (oW.trans aD)).1⟩
 ·rw[q2w (f:=fun c=>!pdB hi lo c)] at hd;split at hd
  ·rw[eP] at hd;exact rR d hd
  ·exact absurd rfl hd
 ·rw[q2w (f:=fun c=>!pdB hi lo c)];split
  ·rw[eP];exact(lT d).1
  ·rw[q0g];omega
attribute [local go_sem ↓] Go.wp_at_zero Go.wp_at_succ
theorem qlx (v:Value) (L:List Int) (g:Nat) (pb:Value) (f:Int->Bool) (w:World) (h:Sl w 1 v (ints L))
  (eg:∀ args w,(callFunc g args).run Tryz.prog w = .ok (.enter g args) w) (hf:∀ W,BwQ w W->∀ t∈L,Calls Tryz.prog g (#[pb,.int .i64 t]) W fun e w'=>e = .returned (.bool (f t))/\BwQ W w') :
  Calls Tryz.prog 187 #[v,.func (.func g) #[pb] #[]] w fun e w'=>∃ i:Int,e = .returned (.int .i64 i)/\q2s L f i/\BwQ w w':=by
 obtain⟨a,len,cap,rfl,h1,h2,h3,h4,h5⟩:=h;unfold maxLen at h2;rw[xl] at h3;have hl:L.length=len:=by omega
 clear h3;have Hl:=lhd hl;clear hl;have H4:=lhd h4;clear h4;have H5:=lhd h5;clear h5;have HF:=lhd hf;clear hf;go_enter Tryz.func187,Tryz.ntmps187;go_wp2;go_loopw [5,8] (fun _ i wr=>∃ k:Nat,i = .int .i64 k/\k<=len/\Hid (∀ t∈L.take k,f t=false)/\BwQ w wr) (fun _ i _=>len - (vI i).toNat)
 case atStart=>exact⟨0,rfl,go _,(show Hid _ from fun t ht=>by simp at ht),Below.refl _ _⟩
 case round =>
  obtain⟨k,rfl,hk,HN,hB⟩:=hrel;by_cases hlt:k < len
  ·obtain⟨ad,rfl⟩:=sadq H4.out (by omega)
   obtain⟨t,ht⟩ : ∃ t,L[k]? = some t:=⟨_,g8 (by rw[Hl.out];exact hlt)⟩
   have e0:(ints L)[k]? = some (.int .i64 t):=by simp[ints,ht]
   have d0:wr.cell? (ad.add k)=some (.int .i64 t):=q8 hB (H5.out ad rfl _ _ e0);have af:=HF.out wr hB t (gh ht);have HC:=lhd af;have HT:=lhd ht;clear e0 ht af;go_wp2_with fail;refine HC.out.mono ?_;rintro e w2 ⟨rfl,aj⟩;by_cases hft:f t=true
   ·have fi:=lhd hft;rw[hft];go_wp2;go_ret;exact⟨k,rfl,.inr ⟨k,t,rfl,HT.out,fi.out,HN.out⟩,(btr hB aj)⟩
   ·have mo:f t=false:=by simpa using hft
    have fi:=lhd mo;rw[mo];clear hft mo;go_wp2;go_roundw
    case measure=>simp[vI];omega
    case rel =>
     refine⟨k+1,qh (by omega),by omega,(show Hid _ from fun u hu=>?_),(btr hB aj)⟩;rw[gq,HT.out] at hu;rcases gF.1 hu with hu | hu
     ·exact HN.out u hu
     ·simp at hu;rw[hu];exact fi.out
  ·have bE:k=len:=by omega
   have eZ:=lhd bE;clear bE;go_wp2;go_ret;refine⟨-1,rfl,.inl ⟨rfl,?_⟩,hB⟩;have hn:=HN.out;rw[gm (by rw[Hl.out,eZ.out];exact nlr _)] at hn;exact hn
theorem qly (base:Nat) (v:Value) (L:List Int) (g:Nat) (pb:Value) (f:Int->Bool) (w:World) (h:w.ownsRow base 3 1 v L.length (ints L)) (hlen:L.length<=1099511627776)
  (eg:∀ args w,(callFunc g args).run Tryz.prog w = .ok (.enter g args) w) (hf:∀ W,Gs (fun b=>v.ownBlock=some b) w W->∀ t∈L,Calls Tryz.prog g (#[pb,.int .i64 t]) W fun e w'=>e = .returned (.bool (f t))/\BwQ W w') :
  Calls Tryz.prog 160 #[v,.func (.func g) #[pb] #[]] w fun e w'=>∃ r,e = .returned r/\w'.ownsRow base 3 1 r (L.filter fun t=>!f t).length (ints (L.filter fun t=>!f t))/\Gs (fun b=>v.ownBlock=some b) w w':=by
 have jK:=qlx v L g pb f w (Sl.qc h) eg (fun W hW t ht=>hf W (Gs.xh hW) t ht);have HI:=lhd jK;have HF:=lhd hf;have HR:=lhd h;obtain⟨a,cap,rfl⟩:=qj h;obtain⟨len,hl⟩ : ∃ len,len=L.length:=⟨_,rfl⟩
 rw[<-hl] at HI HF HR hlen ⊢;have HL:=lhd hl;clear jK hf h hl;go_enter Tryz.func160,Tryz.ntmps160;go_wp2_with fail;refine HI.out.mono ?_;rintro e w1 ⟨i0,rfl,hi0,ai⟩;have aV:=lhd ai;rcases hi0 with ⟨rfl,aG⟩ | ⟨k,t0,rfl,hk,ht,fO⟩
 ·have HA:=lhd aG;clear aG ai;go_wp2_with fail;go_ret;have he:(L.filter fun t=>!f t)=L:=List.filter_eq_self.2 fun u hu=>by rw[HA.out u hu];rfl
  rw[he,<-HL.out];exact⟨_,rfl,qa HR.out aV.out,Gs.xh aV.out⟩
 ·have bF:k < len:=by rw[HL.out];exact(ge.1 hk).1
  obtain⟨b,dr⟩ : ∃ b,a=some ⟨b,0,none⟩:=by
   rcases HR.out.2 with ⟨h0,_⟩ | ⟨b,c',cur,he,_⟩
   ·cases h0;omega
   ·exact⟨b,by cases he;rfl⟩
  subst dr;have dg:=Sft.start (f:=f) hk ht fO;have rI:((k:Int) == -1)=false:=by simp
  have EP:=lhd dg;have cw:len<=cap/\cap<=maxLen:=by obtain⟨h1,h2,_⟩:=(Sl.qc HR.out).open;exact⟨h1,h2⟩
  obtain⟨yF,nt⟩:=cw;unfold maxLen at nt;have cQ:=qa HR.out aV.out;have ct:=lhd cQ;clear hk ht fO ai dg cQ;go_wp2_with fail;go_loopw [5,6] (fun x5 x6 wr=>∃ (i j:Nat) (X:List Int),x5 = .int .i64 i/\x6 = .int .i64 j/\j<=len/\i < j/\Hid (Sft f L X i j)/\Hid (wr.ownsRow base 3 1 (.slice (some ⟨b,0,none⟩) len cap) len (ints X))/\Gs (fun c=>c=b) w wr) (fun _ x6 _=>len - (vI x6).toNat)
  case atStart=>exact⟨k,k+1,L,rfl,qh (by omega),by omega,by omega,EP.out,ct.out,Gs.xh aV.out⟩
  case round =>
   obtain⟨i,j,X,rfl,rfl,hj,jE,HS,HX,hG⟩:=hrel;have pO:Gs (fun c=>(Value.slice (some ⟨b,0,none⟩) len cap).ownBlock=some c) w wr:=hG.mono fun c _ hc=>by rw[hc];rfl
   by_cases hlt:j < len
   ·obtain⟨t,ht⟩ : ∃ t,L[j]? = some t:=⟨_,g8 (by rw[<-HL.out];exact hlt)⟩
    have yG:X[j]? = some t:=HS.out.get.trans ht;obtain⟨u,hu⟩ : ∃ u,X[i]? = some u:=⟨_,g8 (by rw[HS.out.len,<-HL.out];omega)⟩
    have aI:=fun q=>(HX.out.cellAt q)
    have dp:=HX.out.frozenAt;have e0:(ints X)[j]? = some (.int .i64 t):=by simp[ints,yG]
    have d0:wr.cell? ⟨b,j,none⟩=some (.int .i64 t):=by rw[aI _ (by omega),e0]
    have o0:(ints X)[i]? = some (.int .i64 u):=by simp[ints,hu]
    have p0:wr.cell? ⟨b,i,none⟩=some (.int .i64 u):=by rw[aI _ (by omega),o0]
    clear e0 o0;have af:=HF.out wr pO t (gh ht);have HC:=lhd af;have HT:=lhd ht;have P9:=lhd pO;clear af ht yG hu aI dp pO;cases hft:f t with
    | true =>
     have fi:=lhd hft;rw[hft] at HC;clear hft;go_wp2_with fail;refine HC.out.mono ?_;rintro e w2 ⟨rfl,aj⟩;have ck:BwQ wr w2:=aj;have dF:Gs (fun c=>c=b) w w2:=hG.then (S':=fun _=>False) (Gs.xh ck) (fun _ h=>h.elim);have eS:Hid (w2.ownsRow base 3 1 (.slice (some ⟨b,0,none⟩) len cap) len (ints X)):=qa HX.out ck;clear aj ck;go_wp2_with fail;go_roundw
     case measure=>simp[vI];omega
     case rel=>exact⟨i,j+1,X,rfl,qh (by omega),by omega,by omega,HS.out.skip HT.out fi.out,eS,dF⟩
    | false =>
     have fi:=lhd hft;rw[hft] at HC;clear hft;go_wp2_with fail;refine HC.out.mono ?_;rintro e w2 ⟨rfl,aj⟩;have ck:BwQ wr w2:=aj;have dF:Gs (fun c=>c=b) w w2:=hG.then (S':=fun _=>False) (Gs.xh ck) (fun _ h=>h.elim);have eS:Hid (w2.ownsRow base 3 1 (.slice (some ⟨b,0,none⟩) len cap) len (ints X)):=qa HX.out ck;have f0:=eS.out.frozenAt i
     replace p0:=Cx.q8 ck p0
     clear aj ck;go_wp2_with fail;go_roundw
     case measure=>simp[vI];omega
     case rel=>exact⟨i+1,j+1,X.set i t,qh (by omega),qh (by omega),by omega,by omega,HS.out.put HT.out fi.out,by have:=(eS.out.stored i (.int .i64 t)).1;rw[show (ints X).set i (.int .i64 t)=ints (X.set i t) from by simp[ints,List.map_set]] at this;exact this,dF.grown (eS.out.stored i (.int .i64 t)).2 (fun k e=>by cases e;exact .inr rfl)⟩
   ·have dM:j=len:=by omega
    have aI:=fun q=>(HX.out.cellAt q)
    have dp:=HX.out.frozenAt;have fE:=HX.out.1;obtain⟨zs,iD⟩:=qe9 wr b (i) (len - i) (cap - i) (by omega) (fun q hq=>by rw[aI _ (by omega),g8 (by rw[fE];omega)];rfl) (fun q hq=>dp _);have al:¬ cap=i:=by omega
    have HJ:=lhd dM;have HZ:=lhd (ku zs (i) HX.out);have ed:(i:Int)<=(len:Int):=by omega
    have hi0:(0:Int)<=(i:Int):=by omega
    clear aI dp fE dM pO;go_wp2_with fail;go_ret;obtain⟨⟨ys,hy,sY⟩,o7⟩:=HZ.out;have jL:=HS.out.low;rw[HJ.out,HL.out,List.take_length] at jL;have sh:(L.filter fun t=>!f t).length=i:=by rw[<-jL,gd,HS.out.len,<-HL.out];omega
    refine⟨_,rfl,?_,(hG.trans o7).mono fun c _ hc=>by rw[hc];rfl⟩;have aA:=q93 hy (i:=i) (by omega);rw[gL,sY,q6k,jL] at aA;rw[sh];exact aA
end Go.Proofs.YtlhicnfeajejhaaGreatDoor
namespace Go.Cx
open Go.Proofs.YtlhicnfeajejhaaGreatDoor
noncomputable def mhi (K:List Cl) (ps:List (Int×Int)):Int->Int:=((xk (canon K) zz zz ps).getD (zz,zz)).1
noncomputable def mlo (K:List Cl) (ps:List (Int×Int)):Int->Int:=((xk (canon K) zz zz ps).getD (zz,zz)).2
noncomputable def yt (K:List Cl) (ps:List (Int×Int)) (dim:Int):List Int:=if opE K ps=0 then q27 (canon K) (mhi K ps) (mlo K ps) dim else []
noncomputable def q4t (K:List Cl) (ps:List (Int×Int)) (f:Int->Int):Int->Int:=if opE K ps=0 then q85 (canon K) (mhi K ps) (mlo K ps) f else zz
noncomputable def upX (K:List Cl) (ps:List (Int×Int)) (c:Int):Int->Int:=if opE K ps=0/\jv (canon K) c=true/\pdB (mhi K ps) (mlo K ps) c=false then upF (canon K) (mhi K ps) c else zz
end Go.Cx
namespace Go.Proofs.YtlhicnfeajejhaaGreatDoor
open Go.Cx Go.RowKit
theorem Opn.fm {w w':World} {K:List Cl} {ps:List (Int×Int)} {T:Nat} (h:Opn w w' K ps T) (hc:chk K=(0,0)) :
  ∃ (BS BH BL:Nat) (nb:Int->Nat) (a:Option Addr) (n c:Nat) (mm:List Ce),Fm w' T BS BH BL nb a n c mm (canon K) ps.length (mhi K ps) (mlo K ps)/\w.heap.size<=T/\w.heap.size<=BS/\w.heap.size<=BH/\w.heap.size<=BL:=by
 obtain⟨BS,BH,BL,nb,a,n,c,mm,hi,lo,h1,h2,h3,h4,h5,h6,h7,h8,h9⟩:=h.ex;have e1:mhi K ps=hi:=by unfold mhi;rw[h6];rfl
 have e2:mlo K ps=lo:=by unfold mlo;rw[h6];rfl
 exact⟨BS,BH,BL,nb,a,n,c,mm,⟨h1,h2,q0d hc,h3,e1 ▸ e2 ▸ h7,e1 ▸ h8,e1 ▸ h4,e2 ▸ h5⟩,h9⟩
theorem qof {w:World} {T BS BH BL n c N:Nat} {nbf:Int->Nat} {a:Option Addr} {mm:List Ce} {K:List Cl} {hi lo:Int->Int} (hF:Fm w T BS BH BL nbf a n c mm K N hi lo) (dim:Int) :
  Calls Tryz.prog 109 #[.pointer (some ⟨T,0,none⟩),.int .i64 dim] w fun e w'=>∃ r,e = .returned r/\w'.ownsRow w.heap.size 3 1 r (q27 K hi lo dim).length (ints (q27 K hi lo dim))/\BwQ w w':=by
 have q0:=hF.fld.t0;have hl:mm.length<=4000:=by have:=hF.good.len;rw[<-hF.cl,gn] at this;exact this
 have HF:=lhd hF;clear hF;go_enter Tryz.func109,Tryz.ntmps109;go_wp2_with fail;refine(qow _ mm dim w HF.out.fld.row (by omega) HF.out.ok).mono ?_;rintro e w1 ⟨r,rfl,aA,ak⟩;rw[HF.out.cl] at aA;obtain⟨oQ,eU,oR,rfl⟩:=qg (Sl.qc aA);have rm:∀ t∈q04 K dim,I64 t:=fun t ht=>by
  unfold q04 at ht;rw[show cellsOf K=K by
   have h1:canon K=K:=q1j HF.out.good.asc fun x hx=>(HF.out.good.sasc x hx).imp fun h=>by omega
   unfold cellsOf;rw[h1,q08 HF.out.good.asc]] at ht
  obtain⟨x,hx,rfl⟩:=gr.1 ht;exact q4s HF.out.cl HF.out.ok (gG (gK.1 hx).1)
 have ed:(q04 K dim).length<=1099511627776:=by
  unfold q04;rw[gn];refine gl (gQ _ _) ?_;rw[show cellsOf K=K by
   have h1:canon K=K:=q1j HF.out.good.asc fun x hx=>(HF.out.good.sasc x hx).imp fun h=>by omega
   unfold cellsOf;rw[h1,q08 HF.out.good.asc]]
  have:=HF.out.good.len;omega
 have nz:=qly w.heap.size (.slice oQ eU oR) (q04 K dim) 110 (.pointer (some ⟨T,0,none⟩)) (fun t=>pdB hi lo t) w1 aA ed Tryz.call110 (fun U hU t ht=>by
  have ej:Below w.heap.size w1 U:=hU.below ak.size fun b hb=>(aA.lt b hb).1
  have k3:=HF.out.q8 (ak.trans ej);exact(q2a T BH BL N N hi lo t U k3.fld.t2 k3.fld.t3 k3.mH k3.mL (rm t ht)).mono fun e w' ⟨h1,h2⟩=>⟨h1,h2 ▸ Below.refl _ _⟩)
 have nC:=lhd nz;have HR:=lhd (aiq aA ak);clear nz aA ak rm ed;go_wp2_with fail;refine nC.out.mono ?_;rintro e w2 ⟨r2,rfl,cZ,dF⟩;obtain⟨Ml,Mm,Mn,rfl⟩:=qg (Sl.qc cZ);have H4:=lhd (aiq cZ dF);clear cZ dF nC;go_wp2_with fail;go_ret;exact⟨_,rfl,H4.out.1,HR.out.2.trans (H4.out.2.below HR.out.2.size fun b hb=>(HR.out.1.lt b hb).1)⟩
section
variable (v pvv:Value) (l:List Ce) (ps:List (Int×Int)) (w:World) (h:SlC w v l) (hl:l.length<=1099511627776) (hok:COk l) (hp:Sl w 2 pvv (pv ps)) (hpI:∀ p∈ps,I64 p.1/\I64 p.2)
include h hl hok hp hpI
theorem qlz:Calls Tryz.prog 43 #[.agg #[v],pvv] w fun e w'=>e = .returned (.int .i64 (opE (l.map Ce.cl) ps))/\BwQ w w':=by
 obtain⟨a,len,cap,rfl⟩:=qg h.1;obtain⟨a1,fj,kX,rfl⟩:=qg hp;have hB:BwQ w (w.alloc (.cells #[.slice a len cap] 26)):=bal w _;have hc:=q6s (.slice a len cap) (.slice a1 fj kX) l ps _ (h.q8 hB) hl hok (hp.q8 hB) hpI;have HC:=lhd hc;have HB:=lhd hB;clear hc hB h hl hok hp hpI;go_enter Tryz.func43,Tryz.ntmps43;go_wp2_with fail;refine HC.out.mono ?_;rintro e w1 ⟨ak,hr⟩;have aV:=lhd ((btr HB.out ak));clear ak;rcases hr with ⟨E,h1,rfl,h2⟩ | ⟨h2,h3,T,rfl,h4⟩
 ·have H:=lhd (aiq h1 h2);clear h1 h2;go_wp2_with fail;go_ret;exact⟨by rw[H.out.2];rfl,aV.out⟩
 ·have H:=lhd h2;clear h2 h3 h4;go_wp2_with fail;go_ret;exact⟨by rw[H.out];rfl,aV.out⟩
theorem qcv (dim:Int):Calls Tryz.prog 45 #[.agg #[v],pvv,.int .i64 dim] w fun e w'=>∃ r,e = .returned r/\w'.ownsRow w.heap.size 3 1 r (yt (l.map Ce.cl) ps dim).length (ints (yt (l.map Ce.cl) ps dim))/\BwQ w w':=by
 obtain⟨a,len,cap,rfl⟩:=qg h.1;obtain⟨a1,fj,kX,rfl⟩:=qg hp;have hB:BwQ w (w.alloc (.cells #[.slice a len cap] 26)):=bal w _;have hc:=q6s (.slice a len cap) (.slice a1 fj kX) l ps _ (h.q8 hB) hl hok (hp.q8 hB) hpI;have HC:=lhd hc;have HB:=lhd hB;clear hc hB h hl hok hp hpI;go_enter Tryz.func45,Tryz.ntmps45;go_wp2_with fail;refine HC.out.mono ?_;rintro e w1 ⟨ak,hr⟩;have aV:=lhd ((btr HB.out ak));clear ak;rcases hr with ⟨E,h1,rfl,h2⟩ | ⟨h2,h3,T,rfl,h4⟩
 ·have hb:(E != 0)=true:=by simpa using h1
  have H:=lhd (aiq h1 h2);clear h1 h2;go_wp2_with fail;go_ret;refine⟨_,rfl,?_,aV.out⟩;unfold yt;rw[H.out.2,if_neg H.out.1];exact World.ownsRow_nil _ _ _ _
 ·obtain⟨BS,BH,BL,nb,a2,n,c,mm,hF,_⟩:=h4.fm h3;have H:=lhd (aiq h2 hF);clear h2 h3 h4 hF;go_wp2_with fail;refine(qof H.out.2 dim).mono ?_;rintro e w2 ⟨r,rfl,hr,aw⟩;obtain⟨Ml,Mm,Mn,rfl⟩:=qg (Sl.qc hr);have H2:=lhd (aiq hr aw);clear hr aw;go_wp2_with fail;go_ret;refine⟨_,rfl,?_,(btr aV.out H2.out.2)⟩;unfold yt;rw[if_pos H.out.1];exact qf H2.out.1 aV.out.size
theorem qm0 (u:Value) (t:List Tm) (S:Nat) (hu:Sl w 3 u (tv t)) (hS:TOk S t) (mG:S+t.length<=1000000000):Calls Tryz.prog 51 #[.agg #[v],pvv,u] w fun e w'=>∃ r L,e = .returned r/\Cn L/\co L=q4t (l.map Ce.cl) ps (co (prs t))/\w'.ownsRow w.heap.size 71 3 r L.length (tv (ctm L))/\(∀ d,co L d≠0->d∈(canon (l.map Ce.cl)).map Cl.id)/\(∀ d,nb (co L d)<=S+t.length+4003)/\BwQ w w':=by
 obtain⟨a,len,cap,rfl⟩:=qg h.1;obtain⟨a1,fj,kX,rfl⟩:=qg hp;obtain⟨a3,WQ,WR,rfl⟩:=qg hu;have hB:BwQ w (w.alloc (.cells #[.slice a len cap] 26)):=bal w _;have hc:=q6s (.slice a len cap) (.slice a1 fj kX) l ps _ (h.q8 hB) hl hok (hp.q8 hB) hpI;have HC:=lhd hc;have HB:=lhd hB;have HU:=lhd (aiq hu (aiq hS mG));clear hc hB h hl hok hp hpI hu hS mG;go_enter Tryz.func51,Tryz.ntmps51;go_wp2_with fail;refine HC.out.mono ?_;rintro e w1 ⟨ak,hr⟩;have aV:=lhd ((btr HB.out ak));clear ak;rcases hr with ⟨E,h1,rfl,h2⟩ | ⟨h2,h3,T,rfl,h4⟩
 ·have hb:(E != 0)=true:=by simpa using h1
  have H:=lhd (aiq h1 h2);clear h1 h2;go_wp2_with fail;go_ret;refine⟨_,[],rfl,Cn.nil,?_,World.ownsRow_nil _ _ _ _,fun d hd=>absurd rfl hd,fun d=>by rw[show co ([] : List (Int×Int)) d=0 from rfl,q0g];omega,aV.out⟩;unfold q4t;rw[H.out.2,if_neg H.out.1];rfl
 ·obtain⟨BS,BH,BL,nb,a2,n,c,mm,hF,_⟩:=h4.fm h3;have H:=lhd (aiq h2 hF);clear h2 h3 h4 hF;go_wp2_with fail;refine(qoe H.out.2 _ t S (HU.out.1.q8 aV.out) HU.out.2.1 HU.out.2.2).mono ?_;rintro e w2 ⟨r,L,rfl,k1,k2,k3,k4,k5,aw⟩;obtain⟨Ml,Mm,Mn,rfl⟩:=qg (Sl.qc k3);have H2:=lhd (aiq k1 (aiq k2 (aiq k3 (aiq k4 (aiq k5 aw)))));clear k1 k2 k3 k4 k5 aw;go_wp2_with fail;go_ret;obtain⟨k1,k2,k3,k4,k5,aw⟩:=H2.out;refine⟨_,L,rfl,k1,?_,qf k3 aV.out.size,k4,k5,(btr aV.out aw)⟩;unfold q4t;rw[if_pos H.out.1];exact k2
end
theorem qpf (v pvv:Value) (l:List Ce) (ps:List (Int×Int)) (w:World) (h:SlC w v l) (hl:l.length<=1099511627776) (hok:COk l) (hp:Sl w 2 pvv (pv ps)) (hpI:∀ p∈ps,I64 p.1/\I64 p.2) (id:Int) (hid:I64 id) :
  Calls Tryz.prog 46 #[.agg #[v],pvv,.int .i64 id] w fun e w'=>∃ r L,e = .returned r/\Cn L/\co L=upX (l.map Ce.cl) ps id/\w'.ownsRow w.heap.size 71 3 r L.length (tv (ctm L))/\(∀ d,co L d≠0->d∈(canon (l.map Ce.cl)).map Cl.id)/\(∀ d,nb (co L d)<=5000)/\BwQ w w':=by
 obtain⟨a,len,cap,rfl⟩:=qg h.1;obtain⟨a1,fj,kX,rfl⟩:=qg hp;have hB:BwQ w (w.alloc (.cells #[.slice a len cap] 26)):=bal w _;have hc:=q6s (.slice a len cap) (.slice a1 fj kX) l ps _ (h.q8 hB) hl hok (hp.q8 hB) hpI;have HC:=lhd hc;have HB:=lhd hB;have HI:=lhd hid;clear hc hB h hl hok hp hpI;obtain⟨K0,hK0⟩ : ∃ K0,K0=l.map Ce.cl:=⟨_,rfl⟩
 rw[<-hK0] at HC ⊢;have fS:∀ (w1:World),BwQ w w1->upX K0 ps id=zz->∃ r L,Ending.returned (.slice none 0 0) = .returned r/\Cn L/\co L=upX K0 ps id/\w1.ownsRow w.heap.size 71 3 r L.length (tv (ctm L))/\(∀ d,co L d≠0->d∈(canon K0).map Cl.id)/\(∀ d,nb (co L d)<=5000)/\BwQ w w1:=fun w1 hb hz=>⟨_,[],rfl,Cn.nil,hz.symm,World.ownsRow_nil _ _ _ _,fun d hd=>absurd rfl hd,fun d=>by rw[show co ([] : List (Int×Int)) d=0 from rfl,q0g];omega,hb⟩
 have BA:=lhd fS;clear fS hK0 hid;go_enter Tryz.func46,Tryz.ntmps46;go_wp2_with fail;refine HC.out.mono ?_;rintro e w1 ⟨ak,hr⟩;have aV:=lhd ((btr HB.out ak));clear ak;rcases hr with ⟨E,h1,rfl,h2⟩ | ⟨h2,h3,T,rfl,h4⟩
 ·have hb:(E != 0)=true:=by simpa using h1
  have H:=lhd (aiq h1 h2);clear h1 h2;go_wp2_with fail;go_ret;exact BA.out _ aV.out (by unfold upX;rw[if_neg];intro hh;rw[H.out.2] at hh;exact H.out.1 hh.1)
 obtain⟨BS,BH,BL,Rb,a2,n,c,mm,hF,_⟩:=h4.fm h3;have q0:=hF.fld.t0;have q1:=hF.fld.t1;have db:=q29 w1 hF.fld.sid.top HI.out;rw[hF.cl] at db;have qe:=qiw;have rn:=q2a T BH BL ps.length ps.length (mhi K0 ps) (mlo K0 ps) id w1 hF.fld.t2 hF.fld.t3 hF.mH hF.mL HI.out;have BB:=lhd rn;have H:=lhd (aiq h2 hF);clear h2 h3 h4 hF rn;by_cases hh:jv (canon K0) id=true
 case neg =>
  have hh:jv (canon K0) id=false:=by simpa using hh
  rw[hh,if_neg (by simp)] at db;have HH:=lhd hh;clear hh;go_wp2_with fail;go_ret;exact BA.out _ aV.out (by unfold upX;rw[if_neg];intro hx;rw[HH.out] at hx;cases hx.2.1)
 rw[hh,if_pos rfl] at db;have HH:=lhd hh;clear hh;obtain⟨pd,oX⟩ : ∃ pd,pd=pdB (mhi K0 ps) (mlo K0 ps) id:=⟨_,rfl⟩
 rw[<-oX] at BB;have Rc:=lhd oX;clear oX;cases pd with
 | true =>go_wp2_with fail;refine BB.out.mono ?_;rintro e w2 ⟨rfl,rfl⟩;go_wp2_with fail;go_ret;exact BA.out _ aV.out (by unfold upX;rw[if_neg];intro hx;rw[<-Rc.out] at hx;cases hx.2.2)
 | false =>
  go_wp2_with fail;refine BB.out.mono ?_;rintro e w2 ⟨rfl,fZ⟩;have fZ:=fZ.symm;subst fZ;clear db;go_wp2_with fail;refine(qgv 1 _ (by decide) (by decide)).mono ?_;rintro e w3 ⟨rfl,aQ⟩;have hs:=q13 w3 71 3 [.int .i64 id,.bool (decide ((1:Int) < 0)),.string (mg 1)] 1 rfl (by unfold maxLen;omega);have HS:=lhd hs;have fC:=lhd aQ;have p0:=Cx.q8 aQ q0;have WS:=qk p0 (.cells #[.int .i64 id,.bool false,.string (mg 1)] 71);clear hs aQ q0 q1;unfold wv;go_upto_region 5 with fail;have hG:=H.out.2.good;have eA:Sl (w3.alloc (.cells #[.int .i64 id,.bool false,.string (mg 1)] 71)) 3 (.slice (some ⟨w3.heap.size,0,none⟩) 1 1) (tv (ctm [(id,1)])):=HS.out;obtain⟨w4,vV⟩ : ∃ w4,w4=w3.alloc (.cells #[.int .i64 id,.bool false,.string (mg 1)] 71):=⟨_,rfl⟩
  have B4:BwQ w1 w4:=by rw[vV];exact fC.out.alloc fC.out.size _
  rw[<-vV] at eA WS ⊢;have Mo:=H.out.2.q8 B4;have cp:TOk 1 (ctm [(id,1)]):=LOk.tok fun p hp=>by
   have:p=(id,1):=by simpa using hp
   rw[this];exact⟨HI.out,q31 1 1 (by decide)⟩
  have fs:(zk mm).length<=256000:=by rw[q2q,Mo.cl];exact q6v hG
  have HX:=lhd (aiq eA (aiq B4 (aiq Mo (aiq cp (aiq fs hG)))));clear eA B4 Mo cp fs hG vV HS fC p0;go_wp2_with fail;refine(q5y _ mm _ (ctm [(id,1)]) 1 w4 HX.out.2.2.1.fld.row HX.out.2.2.1.ok HX.out.1 HX.out.2.2.2.1 (by rw[qz];have:=HX.out.2.2.2.2.1;show _+1+_<=_;omega)).mono ?_;rintro e w5 ⟨r5,rfl,⟨Lb,Re,Rf,WT,BC⟩,cU⟩;obtain⟨v5,n5,c5,rfl⟩:=qg (Sl.qc BC);have dI:co Lb=bdD (canon K0) id 1:=funext fun d=>by rw[Rf,zv,vg,q2q,HX.out.2.2.1.cl];rfl
  have hG:=HX.out.2.2.2.2.2;have tF:=HX.out.2.2.1.q8 cU;have Mq:In0 (canon K0) (co Lb):=by rw[dI];exact qcu hG id 1
  have Rg:∀ d,nb (co Lb d)<=1:=fun d=>by rw[dI];exact qod hG id d
  obtain⟨M,iO⟩:=q9f hG tF.mtc tF.ac Mq;obtain⟨Wt,oV⟩:=qct hG tF.mtc tF.ac;have cy:=qei tF.fld tF.cl hG tF.ok tF.mtc tF.mH oV w4.heap.size _ Lb BC cU.size Re Mq 1 Rg (by omega) M iO;rw[dI] at cy;have BD:=lhd cy;have HY:=lhd (aiq cU tF);clear cy iO oV Re Rf WT BC cU dI hG tF Mq Rg;go_wp2_with fail;refine BD.out.mono ?_;rintro e w6 ⟨r1,r2,L1,L2,rfl,cQ,Mr,Ms,dy,eO,dG,hi1,hi2,dT,ff⟩;obtain⟨v6,n6,c6,rfl⟩:=qg (Sl.qc cQ);obtain⟨v7,n7,c7,rfl⟩:=qg dy;have nD:In0 (canon K0) (co L2):=by rw[dG];exact hi2
  have iy:∀ d,nb (co L2 d)<=4004:=fun d=>by rw[dG];have:=(dT d).2;omega
  have jO:TOk 4004 (ctm L2):=q9i H.out.2.cl H.out.2.ok eO nD iy;have l2:=q6u eO nD;have hlen:=HX.out.2.2.2.2.2.len;have HZ:=lhd (aiq eO (aiq dG (aiq dy (aiq hi2 (aiq iy (aiq jO (aiq l2 (aiq hlen ff))))))));clear cQ Mr Ms dy eO dG hi1 hi2 dT ff nD iy jO l2 hlen BD;go_wp2_with fail;have BE:BwQ w4 w6:=(btr HY.out.1 HZ.out.2.2.2.2.2.2.2.2);refine(qbw _ _ (ctm [(id,1)]) (ctm L2) 4004 w6 (HX.out.1.q8 BE) HZ.out.2.2.1 (HX.out.2.2.2.1.mono (by omega)) HZ.out.2.2.2.2.2.1 (by rw[qz,qz];have:=HZ.out.2.2.2.2.2.2;show _+1+_<=_;omega)).mono ?_;rintro e w7 ⟨r8,rfl,⟨L8,rp,nE,Rh,eC⟩,mQ⟩;obtain⟨v8,n8,c8,rfl⟩:=qg (Sl.qc eC);have HW:=lhd (aiq rp (aiq nE (aiq eC mQ)));have Mt:=lhd BE;clear rp nE Rh eC mQ BE;go_wp2_with fail;go_ret;obtain⟨rp,nE,eC,mQ⟩:=HW.out;have e8:co L8=upF (canon K0) (mhi K0 ps) id:=funext fun d=>by rw[nE,zv,zv,vg,HZ.out.2.1];rfl
  have mC:BwQ w w6:=aV.out.trans (((btr HX.out.2.1 Mt.out)).mono aV.out.size);have iP:id∈(canon K0).map Cl.id:=by
   obtain⟨x,hx,he⟩:=List.any_eq_true.1 HH.out;have he:x.id=id:=by simpa using he
   exact he ▸ gG hx
  refine⟨_,L8,rfl,rp,?_,qf eC mC.size,fun d hd=>?_,fun d=>?_,(btr mC mQ)⟩
  ·rw[e8];unfold upX;rw[if_pos ⟨H.out.1,HH.out,Rc.out.symm⟩]
  ·rw[nE,zv,zv,vg] at hd;by_cases h0:d=id
   ·rw[h0];exact iP
   ·have:co L2 d≠0:=fun e=>hd (by rw[e];unfold qw;rw[if_neg h0];rfl)
    rw[HZ.out.2.1] at this;exact HZ.out.2.2.2.1 d this
  ·rw[nE,zv,zv,vg];have h1:=qbn (qw id 1 d) (co L2 d);have h2:=HZ.out.2.2.2.2.1 d;have h3:nb (qw id 1 d)<=1:=by
    unfold qw;split
    ·exact q31 _ _ (by decide)
    ·rw[q0g];omega
   omega
end Go.Proofs.YtlhicnfeajejhaaGreatDoor
