/- Package morse: down. Conditions: none. slices.IndexFunc and DeleteFunc at ints for a method value. Package morse: critical, Check, Critical, Down. .. -/
import Derived.Test.YtlhicnfeajejhaaGreatDoorJQi
set_option maxRecDepth 1000000
set_option maxHeartbeats 16000000
namespace Go.Cx
theorem q6w (f:Int->Bool) (L:List (Int×Int)):(ctm L).filter (fun t=>f t.c)=ctm (L.filter fun p=>f p.1):=by
 unfold ctm;rw[List.filter_map];rfl
theorem q88 {L:List (Int×Int)} (h:Cn L) (f:Int->Bool):Cn (L.filter fun p=>f p.1):=⟨h.1.filter _,fun p hp=>h.2 p (List.mem_filter.1 hp).1⟩
theorem q2w (L:List (Int×Int)) (f:Int->Bool) (c:Int):co (L.filter fun p=>f p.1) c=if f c then co L c else 0:=by
 induction L with
 | nil=>split <;> rfl
 | cons p L ih =>
  rw[List.filter_cons,jh];by_cases hp:f p.1=true
  ·rw[if_pos hp,jh,ih];by_cases hc:p.1=c
   ·subst hc;rw[if_pos rfl,if_pos hp,if_pos hp]
   ·rw[if_neg hc];split <;> omega
  ·rw[if_neg hp,ih];by_cases hc:p.1=c
   ·subst hc;rw[if_neg hp,if_neg hp]
   ·rw[if_neg hc];split <;> omega
end Go.Cx
namespace Go.Proofs.YtlhicnfeajejhaaGreatDoor
open Go.Cx Go.RowKit
structure Fm (w:World) (T BS BH BL:Nat) (nb:Int->Nat) (a:Option Addr) (n c:Nat) (mm:List Ce) (K:List Cl) (N:Nat) (hi lo:Int->Int):Prop where
 fld:Fld w T BS BH BL nb a n c mm
 cl:mm.map Ce.cl=K
 good:Cx.Good K
 ok:COk mm
 mtc:Mtc K hi lo
 ac:∀ a,¬ yp K hi a
 mH:MpI w BH N hi
 mL:MpI w BL N lo
theorem Fm.q8 {w w':World} {T BS BH BL:Nat} {nb:Int->Nat} {a:Option Addr} {n c:Nat} {mm:List Ce} {K:List Cl} {N:Nat} {hi lo:Int->Int} (h:Fm w T BS BH BL nb a n c mm K N hi lo) (hb:Below w.heap.size w w'):Fm w' T BS BH BL nb a n c mm K N hi lo :=
 ⟨h.fld.q8 hb,h.cl,h.good,h.ok,h.mtc,h.ac,h.mH.q8 hb,h.mL.q8 hb⟩
theorem qoe {w:World} {T BS BH BL n c N:Nat} {nbf:Int->Nat} {a:Option Addr} {mm:List Ce} {K:List Cl} {hi lo:Int->Int} (hF:Fm w T BS BH BL nbf a n c mm K N hi lo)
  (v:Value) (l:List Tm) (S:Nat) (hv:Sl w 3 v (tv l)) (hS:TOk S l) (hSb:S+l.length<=1000000000) :
  Calls Tryz.prog 115 #[.pointer (some ⟨T,0,none⟩),v] w fun e w'=>∃ r L,e = .returned r/\Cn L/\co L=q85 K hi lo (co (prs l))/\w'.ownsRow w.heap.size 71 3 r L.length (tv (ctm L))/\In0 K (co L)/\(∀ d,nb (co L d)<=S+l.length+4003)/\Below w.heap.size w w':=by
 obtain⟨va,vn,vc,rfl⟩:=qg hv;have HF:=lhd hF;have HV:=lhd (aiq hv (aiq hS hSb));clear hF hv hS hSb;go_enter Tryz.func115,Tryz.ntmps115;go_wp2_with fail;obtain⟨W,hW⟩ : ∃ W:World,W=w.alloc (.cells #[.pointer (some ⟨T,0,none⟩)] 118):=⟨_,rfl⟩
 have hBW:Below w.heap.size w W:=by rw[hW];exact(Below.refl _ w).alloc (nlr _) _
 have kb:W.cell? ⟨w.heap.size,0,none⟩=some (.pointer (some ⟨T,0,none⟩)):=by rw[hW];exact qd w #[.pointer (some ⟨T,0,none⟩)] 118 (0,0) 0
 obtain⟨bk,hbk⟩ : ∃ bk,bk=w.heap.size:=⟨_,rfl⟩
 rw[<-hbk] at kb ⊢;rw[<-hW];have hbs:w.heap.size<=W.heap.size:=hBW.size;have HW:=lhd (aiq hBW kb);clear hBW kb hW hbk;refine(qdd _ l S W (HV.out.1.q8 HW.out.1) HV.out.2.1 (by have:=HV.out.2.2;omega)).mono ?_;rintro e w1 ⟨r,rfl,⟨L,hCn,hco,hLl,hrow⟩,hB1⟩;obtain⟨va1,vn1,vc1,rfl⟩:=qg (Sl.qc hrow);have hnb:∀ d,nb (co L d)<=S+l.length:=fun d=>by
  rw[hco d];have:=q0y S (prs l) (q19 HV.out.2.1) d
  rwa [kq] at this
 have h5:L.length<=1099511627776:=by have:=HV.out.2.2;omega
 have hcL:∀ t∈ctm L,I64 t.c:=fun t ht=>by
  obtain⟨p,hp,rfl⟩:=List.mem_map.1 ht;have h1:co L p.1≠0:=by rw[zl hCn.1 hp];exact hCn.2 p hp
  rw[hco p.1] at h1;obtain⟨q,hq,e,_⟩:=qca h1;obtain⟨t,ht,rfl⟩:=List.mem_map.1 hq;obtain⟨i1,i2,_⟩:=HV.out.2.1 t ht;show I64 p.1;rw[<-e];exact⟨i1,i2⟩
 have fld:∀ U,Below W.heap.size W U->Below w.heap.size w U/\U.cell? ⟨bk,0,none⟩=some (.pointer (some ⟨T,0,none⟩))/\Fm U T BS BH BL nbf a n c mm K N hi lo:=fun U hU=>by
  have hBU:Below w.heap.size w U:=HW.out.1.trans (hU.mono HW.out.1.size);exact⟨hBU,Cx.q8 hU HW.out.2,HF.out.q8 hBU⟩
 have FLD:=lhd fld;have hdel:=qil W.heap.size (.slice va1 vn1 vc1) (ctm L) 164 #[.pointer (some ⟨bk,0,none⟩)] (fun t=>!jv K t.c) w1 (by rw[qz];exact hrow) (by rw[qz];exact h5) Tryz.call164 (fun U hU t ht=>by
  have hBU:Below W.heap.size w1 U:=hU.below hB1.size fun b hb=>(hrow.lt b hb).1
  obtain⟨_,k2,k3⟩:=fld U (hB1.trans hBU);have:=qlu t bk T BS nbf (mm.map Ce.cl) U k2 k3.fld.t1 k3.fld.sid (hcL t ht)
  rwa [k3.cl] at this)
 have HDEL:=lhd hdel;have HL:=lhd (aiq hCn (aiq hco (aiq hrow (aiq hnb (aiq hB1 h5)))));clear hdel hCn hco hrow hnb fld hLl hcL hB1 h5;go_wp2_with fail;refine HDEL.out.mono ?_;rintro e w2 ⟨r2,rfl,hrow2,hG2⟩;simp only [Bool.not_not] at hrow2;rw[q6w (fun c=>jv K c),qz] at hrow2;obtain⟨hCn,hco,hrow,hnb,hB1,h5⟩:=HL.out;have hB2:Below W.heap.size w1 w2:=hG2.below hB1.size fun b hb=>(hrow.lt b hb).1
 have hBW2:Below W.heap.size W w2:=hB1.trans hB2;obtain⟨hBw2,kb2,hF2⟩:=FLD.out w2 hBW2;have hCn2:=q88 hCn (fun c=>jv K c);have hco2:co (L.filter fun p=>jv K p.1)=q1m K (co (prs l)):=by
  funext d
  rw[q2w];unfold q1m;rw[hco d]
 obtain⟨va2,vn2,vc2,rfl⟩:=qg (Sl.qc hrow2);obtain⟨L2,hL2⟩ : ∃ L2,L2=L.filter fun p=>jv K p.1:=⟨_,rfl⟩
 rw[<-hL2] at hrow2 hCn2 hco2;have hIn:In0 K (co L2):=by rw[hco2];exact qit K _
 have hnb2:∀ d,nb (co L2 d)<=S+l.length:=fun d=>by
  rw[hco2];unfold q1m;split
  ·rw[<-hco d];exact hnb d
  ·rw[q0g];omega
 obtain⟨M,hClr⟩:=q9f hF2.good hF2.mtc hF2.ac hIn;obtain⟨Wt,hWt⟩:=qct hF2.good hF2.mtc hF2.ac;have hclear:=qei hF2.fld hF2.cl hF2.good hF2.ok hF2.mtc hF2.mH hWt W.heap.size _ L2 hrow2 hBW2.size hCn2 hIn _ hnb2 HV.out.2.2 M hClr;have HC:=lhd hclear;have H2:=lhd (aiq hBW2 (aiq hBw2 (aiq kb2 hF2)));have HCO:=lhd hco2;clear hclear hBW2 hBw2 hF2 hClr hWt hnb2 hIn hCn2 hrow2 hco2 hL2 hB2 hG2 hCn hco hrow hnb hB1 h5 HDEL;go_wp2_with fail;refine HC.out.mono ?_;rintro e w3 ⟨r1,r3,L3,L4,rfl,hr3,hCn3,hco3,hs4,hCn4,hco4,hi3,hi4,hnb3,hB3⟩;obtain⟨va3,vn3,vc3,rfl⟩:=qg (Sl.qc hr3);obtain⟨va4,vn4,vc4,rfl⟩:=qg hs4;have hBW3:Below W.heap.size W w3:=H2.out.1.trans (hB3.mono H2.out.1.size);have hcL3:∀ t∈ctm L3,I64 t.c:=fun t ht=>by
  obtain⟨p,hp,rfl⟩:=List.mem_map.1 ht;exact q4s H2.out.2.2.2.cl H2.out.2.2.2.ok (hi3 p.1 (by rw[<-hco3,zl hCn3.1 hp];exact hCn3.2 p hp))
 have hl3:L3.length<=4000:=Nat.le_trans (q6u hCn3 (by rw[hco3];exact hi3)) H2.out.2.2.2.good.len;have hdel:=qil W.heap.size (.slice va3 vn3 vc3) (ctm L3) 165 #[.pointer (some ⟨bk,0,none⟩)] (fun t=>pdB hi lo t.c) w3 (by rw[qz];exact hr3) (by rw[qz];omega) Tryz.call165 (fun U hU t ht=>by
  have hBU:Below W.heap.size w3 U:=hU.below hBW3.size fun b hb=>(hr3.lt b hb).1
  obtain⟨_,k2,k3⟩:=FLD.out U (hBW3.trans hBU);exact qlv t bk T BH BL N N hi lo U k2 k3.fld.t2 k3.fld.t3 k3.mH k3.mL (hcL3 t ht))
 have HDEL:=lhd hdel;have H3:=lhd (aiq hr3 (aiq hCn3 (aiq hco3 (aiq hi3 (aiq hnb3 hBW3)))));clear hdel hr3 hCn3 hco3 hi3 hnb3 hBW3 hcL3 hl3 hs4 hCn4 hco4 hi4 hB3;go_wp2_with fail;refine HDEL.out.mono ?_;rintro e w4 ⟨r4,rfl,hrow4,hG4⟩;rw[q6w (fun c=>!pdB hi lo c),qz] at hrow4;obtain⟨va5,vn5,vc5,rfl⟩:=qg (Sl.qc hrow4);have H4:=lhd (aiq hrow4 hG4);clear hrow4 hG4 HDEL;go_wp2_with fail;go_ret;obtain⟨hr3,hCn3,hco3,hi3,hnb3,hBW3⟩:=H3.out;obtain⟨hrow4,hG4⟩:=H4.out;have hB4:Below W.heap.size w3 w4:=hG4.below hBW3.size fun b hb=>(hr3.lt b hb).1
 have hval:∀ d,co (L3.filter fun p=>!pdB hi lo p.1) d=if pdB hi lo d then 0 else (q79 K hi (q1m K (co (prs l)))).1 d:=fun d=>by
  rw[q2w (f:=fun c=>!pdB hi lo c),hco3,HCO.out];cases pdB hi lo d <;> rfl
 refine⟨_,_,rfl,q88 hCn3 (fun c=>!pdB hi lo c),funext hval,qf hrow4 hbs,fun d hd=>?_,fun d=>?_,(FLD.out w4 (hBW3.trans hB4)).1⟩
 ·rw[q2w (f:=fun c=>!pdB hi lo c)] at hd;split at hd
  ·rw[hco3] at hd;exact hi3 d hd
  ·exact absurd rfl hd
 ·rw[q2w (f:=fun c=>!pdB hi lo c)];split
  ·rw[hco3];exact(hnb3 d).1
  ·rw[q0g];omega
end Go.Proofs.YtlhicnfeajejhaaGreatDoor
namespace Go.Proofs.YtlhicnfeajejhaaGreatDoor
open Go.RowKit Go.Cx
attribute [local go_sem ↓] Go.wp_at_zero Go.wp_at_succ
theorem qlx (v:Value) (L:List Int) (g:Nat) (pb:Value) (f:Int->Bool) (w:World) (h:Sl w 1 v (ints L))
  (eg:∀ args w,(callFunc g args).run Tryz.prog w = .ok (.enter g args) w) (hf:∀ W,Below w.heap.size w W->∀ t∈L,Calls Tryz.prog g (#[pb,.int .i64 t]) W fun e w'=>e = .returned (.bool (f t))/\Below W.heap.size W w') :
  Calls Tryz.prog 187 #[v,.func (.func g) #[pb] #[]] w fun e w'=>∃ i:Int,e = .returned (.int .i64 i)/\q2s L f i/\Below w.heap.size w w':=by
 obtain⟨a,len,cap,rfl,h1,h2,h3,h4,h5⟩:=h;unfold maxLen at h2;rw[xl] at h3;have hl:L.length=len:=by omega
 clear h3;have Hl:=lhd hl;clear hl;have H4:=lhd h4;clear h4;have H5:=lhd h5;clear h5;have HF:=lhd hf;clear hf;go_enter Tryz.func187,Tryz.ntmps187;go_wp2;go_loopw [5,8] (fun _ i wr=>∃ k:Nat,i = .int .i64 k/\k<=len/\Hid (∀ t∈L.take k,f t=false)/\Below w.heap.size w wr) (fun _ i _=>len - (vI i).toNat)
 case atStart=>exact⟨0,rfl,Nat.zero_le _,(show Hid _ from fun t ht=>by simp at ht),Below.refl _ _⟩
 case round =>
  obtain⟨k,rfl,hk,HN,hB⟩:=hrel;by_cases hlt:k < len
  ·obtain⟨ad,rfl⟩ : ∃ ad,a=some ad:=by
    cases a with
    | none=>have:=H4.out rfl;omega
    | some ad=>exact⟨ad,rfl⟩
   obtain⟨t,ht⟩ : ∃ t,L[k]? = some t:=⟨_,List.getElem?_eq_getElem (by rw[Hl.out];exact hlt)⟩
   have e0:(ints L)[k]? = some (.int .i64 t):=by simp[ints,ht]
   have d0:wr.cell? (ad.add k)=some (.int .i64 t):=q8 hB (H5.out ad rfl _ _ e0);have hcall:=HF.out wr hB t (List.mem_of_getElem? ht);have HC:=lhd hcall;have HT:=lhd ht;clear e0 ht hcall;go_wp2_with fail;refine HC.out.mono ?_;rintro e w2 ⟨rfl,hb2⟩;by_cases hft:f t=true
   ·have HFT:=lhd hft;rw[hft];go_wp2;go_ret;exact⟨k,rfl,.inr ⟨k,t,rfl,HT.out,HFT.out,HN.out⟩,hB.trans (hb2.mono hB.size)⟩
   ·have hff:f t=false:=by simpa using hft
    have HFT:=lhd hff;rw[hff];clear hft hff;go_wp2;go_roundw
    case measure=>simp[vI];omega
    case rel =>
     refine⟨k+1,qh (by omega),by omega,(show Hid _ from fun u hu=>?_),hB.trans (hb2.mono hB.size)⟩;rw[List.take_add_one,HT.out] at hu;rcases List.mem_append.1 hu with hu | hu
     ·exact HN.out u hu
     ·simp at hu;rw[hu];exact HFT.out
  ·have hke:k=len:=by omega
   have Hke:=lhd hke;clear hke;go_wp2;go_ret;refine⟨-1,rfl,.inl ⟨rfl,?_⟩,hB⟩;have hn:=HN.out;rw[List.take_of_length_le (by rw[Hl.out,Hke.out];exact nlr _)] at hn;exact hn
theorem qly (base:Nat) (v:Value) (L:List Int) (g:Nat) (pb:Value) (f:Int->Bool) (w:World) (h:w.ownsRow base 3 1 v L.length (ints L)) (hlen:L.length<=1099511627776)
  (eg:∀ args w,(callFunc g args).run Tryz.prog w = .ok (.enter g args) w) (hf:∀ W,Gs (fun b=>v.ownBlock=some b) w W->∀ t∈L,Calls Tryz.prog g (#[pb,.int .i64 t]) W fun e w'=>e = .returned (.bool (f t))/\Below W.heap.size W w') :
  Calls Tryz.prog 160 #[v,.func (.func g) #[pb] #[]] w fun e w'=>∃ r,e = .returned r/\w'.ownsRow base 3 1 r (L.filter fun t=>!f t).length (ints (L.filter fun t=>!f t))/\Gs (fun b=>v.ownBlock=some b) w w':=by
 have hidx:=qlx v L g pb f w (Sl.qc h) eg (fun W hW t ht=>hf W (Gs.xh hW) t ht);have HI:=lhd hidx;have HF:=lhd hf;have HR:=lhd h;obtain⟨a,cap,rfl⟩:=qj h;obtain⟨len,hl⟩ : ∃ len,len=L.length:=⟨_,rfl⟩
 rw[<-hl] at HI HF HR hlen ⊢;have HL:=lhd hl;clear hidx hf h hl;go_enter Tryz.func160,Tryz.ntmps160;go_wp2_with fail;refine HI.out.mono ?_;rintro e w1 ⟨i0,rfl,hi0,hb1⟩;have HB1:=lhd hb1;rcases hi0 with ⟨rfl,hall⟩ | ⟨k,t0,rfl,hk,ht,hbef⟩
 ·have HA:=lhd hall;clear hall hb1;go_wp2_with fail;go_ret;have he:(L.filter fun t=>!f t)=L:=List.filter_eq_self.2 fun u hu=>by rw[HA.out u hu];rfl
  rw[he,<-HL.out];exact⟨_,rfl,qa HR.out HB1.out,Gs.xh HB1.out⟩
 ·have hkl:k < len:=by rw[HL.out];exact(List.getElem?_eq_some_iff.1 hk).1
  obtain⟨b,hab⟩ : ∃ b,a=some ⟨b,0,none⟩:=by
   rcases HR.out.2 with ⟨h0,_⟩ | ⟨b,c',cur,he,_⟩
   ·cases h0;omega
   ·exact⟨b,by cases he;rfl⟩
  subst hab;have hS0:=Sft.start (f:=f) hk ht hbef;have hkm:((k:Int) == -1)=false:=by simp
  have HS0:=lhd hS0;have hcap:len<=cap/\cap<=maxLen:=by
   obtain⟨h1,h2,_⟩:=(Sl.qc HR.out).open;exact⟨h1,h2⟩
  obtain⟨hcap1,hcap2⟩:=hcap;unfold maxLen at hcap2;have hr1:=qa HR.out HB1.out;have HR1:=lhd hr1;clear hk ht hbef hb1 hS0 hr1;go_wp2_with fail;go_loopw [5,6] (fun x5 x6 wr=>∃ (i j:Nat) (X:List Int),x5 = .int .i64 i/\x6 = .int .i64 j/\j<=len/\i < j/\Hid (Sft f L X i j)/\Hid (wr.ownsRow base 3 1 (.slice (some ⟨b,0,none⟩) len cap) len (ints X))/\Gs (fun c=>c=b) w wr) (fun _ x6 _=>len - (vI x6).toNat)
  case atStart=>exact⟨k,k+1,L,rfl,qh (by omega),by omega,by omega,HS0.out,HR1.out,Gs.xh HB1.out⟩
  case round =>
   obtain⟨i,j,X,rfl,rfl,hj,hij,HS,HX,hG⟩:=hrel;have hGv:Gs (fun c=>(Value.slice (some ⟨b,0,none⟩) len cap).ownBlock=some c) w wr:=hG.mono fun c _ hc=>by rw[hc];rfl
   by_cases hlt:j < len
   ·obtain⟨t,ht⟩ : ∃ t,L[j]? = some t:=⟨_,List.getElem?_eq_getElem (by rw[<-HL.out];exact hlt)⟩
    have hXt:X[j]? = some t:=HS.out.get.trans ht;obtain⟨u,hu⟩ : ∃ u,X[i]? = some u:=⟨_,List.getElem?_eq_getElem (by rw[HS.out.len,<-HL.out];omega)⟩
    have hcell:=fun q=>(HX.out.cellAt q)
    have hfroz:=HX.out.frozenAt;have e0:(ints X)[j]? = some (.int .i64 t):=by simp[ints,hXt]
    have d0:wr.cell? ⟨b,j,none⟩=some (.int .i64 t):=by rw[hcell _ (by omega),e0]
    have o0:(ints X)[i]? = some (.int .i64 u):=by simp[ints,hu]
    have p0:wr.cell? ⟨b,i,none⟩=some (.int .i64 u):=by rw[hcell _ (by omega),o0]
    clear e0 o0;have hcall:=HF.out wr hGv t (List.mem_of_getElem? ht);have HC:=lhd hcall;have HT:=lhd ht;have HGV:=lhd hGv;clear hcall ht hXt hu hcell hfroz hGv;cases hft:f t with
    | true =>
     have HFT:=lhd hft;rw[hft] at HC;clear hft;go_wp2_with fail;refine HC.out.mono ?_;rintro e w2 ⟨rfl,hb2⟩;have hbw:Below wr.heap.size wr w2:=hb2;have hG2:Gs (fun c=>c=b) w w2:=hG.then (S':=fun _=>False) (Gs.xh hbw) (fun _ h=>h.elim);have HX2:Hid (w2.ownsRow base 3 1 (.slice (some ⟨b,0,none⟩) len cap) len (ints X)):=qa HX.out hbw;clear hb2 hbw;go_wp2_with fail;go_roundw
     case measure=>simp[vI];omega
     case rel=>exact⟨i,j+1,X,rfl,qh (by omega),by omega,by omega,HS.out.skip HT.out HFT.out,HX2,hG2⟩
    | false =>
     have HFT:=lhd hft;rw[hft] at HC;clear hft;go_wp2_with fail;refine HC.out.mono ?_;rintro e w2 ⟨rfl,hb2⟩;have hbw:Below wr.heap.size wr w2:=hb2;have hG2:Gs (fun c=>c=b) w w2:=hG.then (S':=fun _=>False) (Gs.xh hbw) (fun _ h=>h.elim);have HX2:Hid (w2.ownsRow base 3 1 (.slice (some ⟨b,0,none⟩) len cap) len (ints X)):=qa HX.out hbw;have f0:=HX2.out.frozenAt i
     replace p0:=Cx.q8 hbw p0
     clear hb2 hbw;go_wp2_with fail;go_roundw
     case measure=>simp[vI];omega
     case rel=>exact⟨i+1,j+1,X.set i t,qh (by omega),qh (by omega),by omega,by omega,HS.out.put HT.out HFT.out,by have:=(HX2.out.stored i (.int .i64 t)).1;rw[show (ints X).set i (.int .i64 t)=ints (X.set i t) from by simp[ints,List.map_set]] at this;exact this,hG2.grown (HX2.out.stored i (.int .i64 t)).2 (fun k e=>by cases e;exact .inr rfl)⟩
   ·have hje:j=len:=by omega
    have hcell:=fun q=>(HX.out.cellAt q)
    have hfroz:=HX.out.frozenAt;have hxl:=HX.out.1;obtain⟨zs,hcl⟩:=qe9 wr b (i) (len - i) (cap - i) (by omega) (fun q hq=>by rw[hcell _ (by omega),List.getElem?_eq_getElem (by rw[hxl];omega)];rfl) (fun q hq=>hfroz _);have hne:¬ cap=i:=by omega
    have HJ:=lhd hje;have HZ:=lhd (ku zs (i) HX.out);have hil:(i:Int)<=(len:Int):=by omega
    have hi0:(0:Int)<=(i:Int):=by omega
    clear hcell hfroz hxl hje hGv;go_wp2_with fail;go_ret;obtain⟨⟨ys,hy,hpre⟩,hgs⟩:=HZ.out;have hlow:=HS.out.low;rw[HJ.out,HL.out,List.take_length] at hlow;have hfl:(L.filter fun t=>!f t).length=i:=by rw[<-hlow,List.length_take,HS.out.len,<-HL.out];omega
    refine⟨_,rfl,?_,(hG.trans hgs).mono fun c _ hc=>by rw[hc];rfl⟩;have hrow:=q93 hy (i:=i) (by omega);rw[Nat.mul_one,hpre,q6k,hlow] at hrow;rw[hfl];exact hrow
end Go.Proofs.YtlhicnfeajejhaaGreatDoor
namespace Go.Cx
open Go.Proofs.YtlhicnfeajejhaaGreatDoor
noncomputable def mhi (K:List Cl) (ps:List (Int×Int)):Int->Int:=((xk (canon K) zz zz ps).getD (zz,zz)).1
noncomputable def mlo (K:List Cl) (ps:List (Int×Int)):Int->Int:=((xk (canon K) zz zz ps).getD (zz,zz)).2
noncomputable def yt (K:List Cl) (ps:List (Int×Int)) (dim:Int):List Int:=if opE K ps=0 then q27 (canon K) (mhi K ps) (mlo K ps) dim else []
noncomputable def q4t (K:List Cl) (ps:List (Int×Int)) (f:Int->Int):Int->Int:=if opE K ps=0 then q85 (canon K) (mhi K ps) (mlo K ps) f else zz
noncomputable def upX (K:List Cl) (ps:List (Int×Int)) (c:Int):Int->Int:=if opE K ps=0/\jv (canon K) c=true/\pdB (mhi K ps) (mlo K ps) c=false then upF (canon K) (mhi K ps) c else zz
end Go.Cx
namespace Go.Proofs.YtlhicnfeajejhaaGreatDoor
open Go.Cx Go.RowKit
theorem Opn.fm {w w':World} {K:List Cl} {ps:List (Int×Int)} {T:Nat} (h:Opn w w' K ps T) (hc:chk K=(0,0)) :
  ∃ (BS BH BL:Nat) (nb:Int->Nat) (a:Option Addr) (n c:Nat) (mm:List Ce),Fm w' T BS BH BL nb a n c mm (canon K) ps.length (mhi K ps) (mlo K ps)/\w.heap.size<=T/\w.heap.size<=BS/\w.heap.size<=BH/\w.heap.size<=BL:=by
 obtain⟨BS,BH,BL,nb,a,n,c,mm,hi,lo,h1,h2,h3,h4,h5,h6,h7,h8,h9⟩:=h.ex;have e1:mhi K ps=hi:=by unfold mhi;rw[h6];rfl
 have e2:mlo K ps=lo:=by unfold mlo;rw[h6];rfl
 exact⟨BS,BH,BL,nb,a,n,c,mm,⟨h1,h2,q0d hc,h3,e1 ▸ e2 ▸ h7,e1 ▸ h8,e1 ▸ h4,e2 ▸ h5⟩,h9⟩
theorem qof {w:World} {T BS BH BL n c N:Nat} {nbf:Int->Nat} {a:Option Addr} {mm:List Ce} {K:List Cl} {hi lo:Int->Int} (hF:Fm w T BS BH BL nbf a n c mm K N hi lo) (dim:Int) :
  Calls Tryz.prog 109 #[.pointer (some ⟨T,0,none⟩),.int .i64 dim] w fun e w'=>∃ r,e = .returned r/\w'.ownsRow w.heap.size 3 1 r (q27 K hi lo dim).length (ints (q27 K hi lo dim))/\Below w.heap.size w w':=by
 have q0:=hF.fld.t0;have hl:mm.length<=4000:=by have:=hF.good.len;rw[<-hF.cl,List.length_map] at this;exact this
 have HF:=lhd hF;clear hF;go_enter Tryz.func109,Tryz.ntmps109;go_wp2_with fail;refine(qow _ mm dim w HF.out.fld.row (by omega) HF.out.ok).mono ?_;rintro e w1 ⟨r,rfl,hrow,hB1⟩;rw[HF.out.cl] at hrow;obtain⟨va1,vn1,vc1,rfl⟩:=qg (Sl.qc hrow);have hids:∀ t∈q04 K dim,I64 t:=fun t ht=>by
  unfold q04 at ht;rw[show cellsOf K=K by
   have h1:canon K=K:=q1j HF.out.good.asc fun x hx=>(HF.out.good.sasc x hx).imp fun h=>by omega
   unfold cellsOf;rw[h1,q08 HF.out.good.asc]] at ht
  obtain⟨x,hx,rfl⟩:=List.mem_map.1 ht;exact q4s HF.out.cl HF.out.ok (List.mem_map_of_mem (List.mem_filter.1 hx).1)
 have hil:(q04 K dim).length<=1099511627776:=by
  unfold q04;rw[List.length_map];refine Nat.le_trans (List.length_filter_le _ _) ?_;rw[show cellsOf K=K by
   have h1:canon K=K:=q1j HF.out.good.asc fun x hx=>(HF.out.good.sasc x hx).imp fun h=>by omega
   unfold cellsOf;rw[h1,q08 HF.out.good.asc]]
  have:=HF.out.good.len;omega
 have hdel:=qly w.heap.size (.slice va1 vn1 vc1) (q04 K dim) 110 (.pointer (some ⟨T,0,none⟩)) (fun t=>pdB hi lo t) w1 hrow hil Tryz.call110 (fun U hU t ht=>by
  have hBU:Below w.heap.size w1 U:=hU.below hB1.size fun b hb=>(hrow.lt b hb).1
  have k3:=HF.out.q8 (hB1.trans hBU);exact(q2a T BH BL N N hi lo t U k3.fld.t2 k3.fld.t3 k3.mH k3.mL (hids t ht)).mono fun e w' ⟨h1,h2⟩=>⟨h1,h2 ▸ Below.refl _ _⟩)
 have HDEL:=lhd hdel;have HR:=lhd (aiq hrow hB1);clear hdel hrow hB1 hids hil;go_wp2_with fail;refine HDEL.out.mono ?_;rintro e w2 ⟨r2,rfl,hrow2,hG2⟩;obtain⟨va5,vn5,vc5,rfl⟩:=qg (Sl.qc hrow2);have H4:=lhd (aiq hrow2 hG2);clear hrow2 hG2 HDEL;go_wp2_with fail;go_ret;exact⟨_,rfl,H4.out.1,HR.out.2.trans (H4.out.2.below HR.out.2.size fun b hb=>(HR.out.1.lt b hb).1)⟩
section
variable (v pvv:Value) (l:List Ce) (ps:List (Int×Int)) (w:World) (h:SlC w v l) (hl:l.length<=1099511627776) (hok:COk l) (hp:Sl w 2 pvv (pv ps)) (hpI:∀ p∈ps,I64 p.1/\I64 p.2)
include h hl hok hp hpI
theorem qlz:Calls Tryz.prog 43 #[.agg #[v],pvv] w fun e w'=>e = .returned (.int .i64 (opE (l.map Ce.cl) ps))/\Below w.heap.size w w':=by
 obtain⟨a,len,cap,rfl⟩:=qg h.1;obtain⟨a1,len1,cap1,rfl⟩:=qg hp;have hB:Below w.heap.size w (w.alloc (.cells #[.slice a len cap] 26)):=(Below.refl _ w).alloc (nlr _) _;have hc:=q6s (.slice a len cap) (.slice a1 len1 cap1) l ps _ (h.q8 hB) hl hok (hp.q8 hB) hpI;have HC:=lhd hc;have HB:=lhd hB;clear hc hB h hl hok hp hpI;go_enter Tryz.func43,Tryz.ntmps43;go_wp2_with fail;refine HC.out.mono ?_;rintro e w1 ⟨hB1,hr⟩;have HB1:=lhd (HB.out.trans (hB1.mono HB.out.size));clear hB1;rcases hr with ⟨E,h1,rfl,h2⟩ | ⟨h2,h3,T,rfl,h4⟩
 ·have H:=lhd (aiq h1 h2);clear h1 h2;go_wp2_with fail;go_ret;exact⟨by rw[H.out.2];rfl,HB1.out⟩
 ·have H:=lhd h2;clear h2 h3 h4;go_wp2_with fail;go_ret;exact⟨by rw[H.out];rfl,HB1.out⟩
theorem qcv (dim:Int):Calls Tryz.prog 45 #[.agg #[v],pvv,.int .i64 dim] w fun e w'=>∃ r,e = .returned r/\w'.ownsRow w.heap.size 3 1 r (yt (l.map Ce.cl) ps dim).length (ints (yt (l.map Ce.cl) ps dim))/\Below w.heap.size w w':=by
 obtain⟨a,len,cap,rfl⟩:=qg h.1;obtain⟨a1,len1,cap1,rfl⟩:=qg hp;have hB:Below w.heap.size w (w.alloc (.cells #[.slice a len cap] 26)):=(Below.refl _ w).alloc (nlr _) _;have hc:=q6s (.slice a len cap) (.slice a1 len1 cap1) l ps _ (h.q8 hB) hl hok (hp.q8 hB) hpI;have HC:=lhd hc;have HB:=lhd hB;clear hc hB h hl hok hp hpI;go_enter Tryz.func45,Tryz.ntmps45;go_wp2_with fail;refine HC.out.mono ?_;rintro e w1 ⟨hB1,hr⟩;have HB1:=lhd (HB.out.trans (hB1.mono HB.out.size));clear hB1;rcases hr with ⟨E,h1,rfl,h2⟩ | ⟨h2,h3,T,rfl,h4⟩
 ·have hb:(E != 0)=true:=by simpa using h1
  have H:=lhd (aiq h1 h2);clear h1 h2;go_wp2_with fail;go_ret;refine⟨_,rfl,?_,HB1.out⟩;unfold yt;rw[H.out.2,if_neg H.out.1];exact World.ownsRow_nil _ _ _ _
 ·obtain⟨BS,BH,BL,nb,a2,n,c,mm,hF,_⟩:=h4.fm h3;have H:=lhd (aiq h2 hF);clear h2 h3 h4 hF;go_wp2_with fail;refine(qof H.out.2 dim).mono ?_;rintro e w2 ⟨r,rfl,hr,hB2⟩;obtain⟨va5,vn5,vc5,rfl⟩:=qg (Sl.qc hr);have H2:=lhd (aiq hr hB2);clear hr hB2;go_wp2_with fail;go_ret;refine⟨_,rfl,?_,HB1.out.trans (H2.out.2.mono HB1.out.size)⟩;unfold yt;rw[if_pos H.out.1];exact qf H2.out.1 HB1.out.size
theorem qm0 (u:Value) (t:List Tm) (S:Nat) (hu:Sl w 3 u (tv t)) (hS:TOk S t) (hSb:S+t.length<=1000000000):Calls Tryz.prog 51 #[.agg #[v],pvv,u] w fun e w'=>∃ r L,e = .returned r/\Cn L/\co L=q4t (l.map Ce.cl) ps (co (prs t))/\w'.ownsRow w.heap.size 71 3 r L.length (tv (ctm L))/\(∀ d,co L d≠0->d∈(canon (l.map Ce.cl)).map Cl.id)/\(∀ d,nb (co L d)<=S+t.length+4003)/\Below w.heap.size w w':=by
 obtain⟨a,len,cap,rfl⟩:=qg h.1;obtain⟨a1,len1,cap1,rfl⟩:=qg hp;obtain⟨a3,len3,cap3,rfl⟩:=qg hu;have hB:Below w.heap.size w (w.alloc (.cells #[.slice a len cap] 26)):=(Below.refl _ w).alloc (nlr _) _;have hc:=q6s (.slice a len cap) (.slice a1 len1 cap1) l ps _ (h.q8 hB) hl hok (hp.q8 hB) hpI;have HC:=lhd hc;have HB:=lhd hB;have HU:=lhd (aiq hu (aiq hS hSb));clear hc hB h hl hok hp hpI hu hS hSb;go_enter Tryz.func51,Tryz.ntmps51;go_wp2_with fail;refine HC.out.mono ?_;rintro e w1 ⟨hB1,hr⟩;have HB1:=lhd (HB.out.trans (hB1.mono HB.out.size));clear hB1;rcases hr with ⟨E,h1,rfl,h2⟩ | ⟨h2,h3,T,rfl,h4⟩
 ·have hb:(E != 0)=true:=by simpa using h1
  have H:=lhd (aiq h1 h2);clear h1 h2;go_wp2_with fail;go_ret;refine⟨_,[],rfl,Cn.nil,?_,World.ownsRow_nil _ _ _ _,fun d hd=>absurd rfl hd,fun d=>by rw[show co ([] : List (Int×Int)) d=0 from rfl,q0g];omega,HB1.out⟩;unfold q4t;rw[H.out.2,if_neg H.out.1];rfl
 ·obtain⟨BS,BH,BL,nb,a2,n,c,mm,hF,_⟩:=h4.fm h3;have H:=lhd (aiq h2 hF);clear h2 h3 h4 hF;go_wp2_with fail;refine(qoe H.out.2 _ t S (HU.out.1.q8 HB1.out) HU.out.2.1 HU.out.2.2).mono ?_;rintro e w2 ⟨r,L,rfl,k1,k2,k3,k4,k5,hB2⟩;obtain⟨va5,vn5,vc5,rfl⟩:=qg (Sl.qc k3);have H2:=lhd (aiq k1 (aiq k2 (aiq k3 (aiq k4 (aiq k5 hB2)))));clear k1 k2 k3 k4 k5 hB2;go_wp2_with fail;go_ret;obtain⟨k1,k2,k3,k4,k5,hB2⟩:=H2.out;refine⟨_,L,rfl,k1,?_,qf k3 HB1.out.size,k4,k5,HB1.out.trans (hB2.mono HB1.out.size)⟩;unfold q4t;rw[if_pos H.out.1];exact k2
end
theorem qpf (v pvv:Value) (l:List Ce) (ps:List (Int×Int)) (w:World) (h:SlC w v l) (hl:l.length<=1099511627776) (hok:COk l) (hp:Sl w 2 pvv (pv ps)) (hpI:∀ p∈ps,I64 p.1/\I64 p.2) (id:Int) (hid:I64 id) :
  Calls Tryz.prog 46 #[.agg #[v],pvv,.int .i64 id] w fun e w'=>∃ r L,e = .returned r/\Cn L/\co L=upX (l.map Ce.cl) ps id/\w'.ownsRow w.heap.size 71 3 r L.length (tv (ctm L))/\(∀ d,co L d≠0->d∈(canon (l.map Ce.cl)).map Cl.id)/\(∀ d,nb (co L d)<=5000)/\Below w.heap.size w w':=by
 obtain⟨a,len,cap,rfl⟩:=qg h.1;obtain⟨a1,len1,cap1,rfl⟩:=qg hp;have hB:Below w.heap.size w (w.alloc (.cells #[.slice a len cap] 26)):=(Below.refl _ w).alloc (nlr _) _;have hc:=q6s (.slice a len cap) (.slice a1 len1 cap1) l ps _ (h.q8 hB) hl hok (hp.q8 hB) hpI;have HC:=lhd hc;have HB:=lhd hB;have HI:=lhd hid;clear hc hB h hl hok hp hpI;obtain⟨K0,hK0⟩ : ∃ K0,K0=l.map Ce.cl:=⟨_,rfl⟩
 rw[<-hK0] at HC ⊢;have nilcase:∀ (w1:World),Below w.heap.size w w1->upX K0 ps id=zz->∃ r L,Ending.returned (.slice none 0 0) = .returned r/\Cn L/\co L=upX K0 ps id/\w1.ownsRow w.heap.size 71 3 r L.length (tv (ctm L))/\(∀ d,co L d≠0->d∈(canon K0).map Cl.id)/\(∀ d,nb (co L d)<=5000)/\Below w.heap.size w w1:=fun w1 hb hz=>⟨_,[],rfl,Cn.nil,hz.symm,World.ownsRow_nil _ _ _ _,fun d hd=>absurd rfl hd,fun d=>by rw[show co ([] : List (Int×Int)) d=0 from rfl,q0g];omega,hb⟩
 have NIL:=lhd nilcase;clear nilcase hK0 hid;go_enter Tryz.func46,Tryz.ntmps46;go_wp2_with fail;refine HC.out.mono ?_;rintro e w1 ⟨hB1,hr⟩;have HB1:=lhd (HB.out.trans (hB1.mono HB.out.size));clear hB1;rcases hr with ⟨E,h1,rfl,h2⟩ | ⟨h2,h3,T,rfl,h4⟩
 ·have hb:(E != 0)=true:=by simpa using h1
  have H:=lhd (aiq h1 h2);clear h1 h2;go_wp2_with fail;go_ret;exact NIL.out _ HB1.out (by unfold upX;rw[if_neg];intro hh;rw[H.out.2] at hh;exact H.out.1 hh.1)
 obtain⟨BS,BH,BL,nb2,a2,n,c,mm,hF,_⟩:=h4.fm h3;have q0:=hF.fld.t0;have q1:=hF.fld.t1;have hlk:=q29 w1 hF.fld.sid.top HI.out;rw[hF.cl] at hlk;have qe:=qiw;have hpd:=q2a T BH BL ps.length ps.length (mhi K0 ps) (mlo K0 ps) id w1 hF.fld.t2 hF.fld.t3 hF.mH hF.mL HI.out;have HPD:=lhd hpd;have H:=lhd (aiq h2 hF);clear h2 h3 h4 hF hpd;by_cases hh:jv (canon K0) id=true
 case neg =>
  have hh:jv (canon K0) id=false:=by simpa using hh
  rw[hh,if_neg (by simp)] at hlk;have HH:=lhd hh;clear hh;go_wp2_with fail;go_ret;exact NIL.out _ HB1.out (by unfold upX;rw[if_neg];intro hx;rw[HH.out] at hx;cases hx.2.1)
 rw[hh,if_pos rfl] at hlk;have HH:=lhd hh;clear hh;obtain⟨pd,hpde⟩ : ∃ pd,pd=pdB (mhi K0 ps) (mlo K0 ps) id:=⟨_,rfl⟩
 rw[<-hpde] at HPD;have HPE:=lhd hpde;clear hpde;cases pd with
 | true =>
  go_wp2_with fail;refine HPD.out.mono ?_;rintro e w2 ⟨rfl,rfl⟩;go_wp2_with fail;go_ret;exact NIL.out _ HB1.out (by unfold upX;rw[if_neg];intro hx;rw[<-HPE.out] at hx;cases hx.2.2)
 | false =>
  go_wp2_with fail;refine HPD.out.mono ?_;rintro e w2 ⟨rfl,hw2⟩;have hw2:=hw2.symm;subst hw2;clear hlk;go_wp2_with fail;refine(qgv 1 _ (by decide) (by decide)).mono ?_;rintro e w3 ⟨rfl,hb3⟩;have hs:=q13 w3 71 3 [.int .i64 id,.bool (decide ((1:Int) < 0)),.string (mg 1)] 1 rfl (by unfold maxLen;omega);have HS:=lhd hs;have HB3:=lhd hb3;have p0:=Cx.q8 hb3 q0;have p0':=qk p0 (.cells #[.int .i64 id,.bool false,.string (mg 1)] 71);clear hs hb3 q0 q1;unfold wv;go_upto_region 5 with fail;have hG:=H.out.2.good;have hx1:Sl (w3.alloc (.cells #[.int .i64 id,.bool false,.string (mg 1)] 71)) 3 (.slice (some ⟨w3.heap.size,0,none⟩) 1 1) (tv (ctm [(id,1)])):=HS.out;obtain⟨w4,hw4⟩ : ∃ w4,w4=w3.alloc (.cells #[.int .i64 id,.bool false,.string (mg 1)] 71):=⟨_,rfl⟩
  have B4:Below w1.heap.size w1 w4:=by rw[hw4];exact HB3.out.alloc HB3.out.size _
  rw[<-hw4] at hx1 p0' ⊢;have hF4:=H.out.2.q8 B4;have tok1:TOk 1 (ctm [(id,1)]):=LOk.tok fun p hp=>by
   have:p=(id,1):=by simpa using hp
   rw[this];exact⟨HI.out,q31 1 1 (by decide)⟩
  have hraw:(zk mm).length<=256000:=by rw[q2q,hF4.cl];exact q6v hG
  have HX:=lhd (aiq hx1 (aiq B4 (aiq hF4 (aiq tok1 (aiq hraw hG)))));clear hx1 B4 hF4 tok1 hraw hG hw4 HS HB3 p0;go_wp2_with fail;refine(q5y _ mm _ (ctm [(id,1)]) 1 w4 HX.out.2.2.1.fld.row HX.out.2.2.1.ok HX.out.1 HX.out.2.2.2.1 (by rw[qz];have:=HX.out.2.2.2.2.1;show _+1+_<=_;omega)).mono ?_;rintro e w5 ⟨r5,rfl,⟨Lb,cn5,cv5,ln5,row5⟩,hb5⟩;obtain⟨v5,n5,c5,rfl⟩:=qg (Sl.qc row5);have hbd:co Lb=bdD (canon K0) id 1:=funext fun d=>by
   rw[cv5,zv,vg,q2q,HX.out.2.2.1.cl];rfl
  have hG:=HX.out.2.2.2.2.2;have hF5:=HX.out.2.2.1.q8 hb5;have in5:In0 (canon K0) (co Lb):=by rw[hbd];exact qcu hG id 1
  have nb5:∀ d,nb (co Lb d)<=1:=fun d=>by rw[hbd];exact qod hG id d
  obtain⟨M,hClr⟩:=q9f hG hF5.mtc hF5.ac in5;obtain⟨Wt,hWt⟩:=qct hG hF5.mtc hF5.ac;have hclear:=qei hF5.fld hF5.cl hG hF5.ok hF5.mtc hF5.mH hWt w4.heap.size _ Lb row5 hb5.size cn5 in5 1 nb5 (by omega) M hClr;rw[hbd] at hclear;have HC2:=lhd hclear;have HY:=lhd (aiq hb5 hF5);clear hclear hClr hWt cn5 cv5 ln5 row5 hb5 hbd hG hF5 in5 nb5;go_wp2_with fail;refine HC2.out.mono ?_;rintro e w6 ⟨r1,r2,L1,L2,rfl,hr1,hCn1,hco1,hs2,hCn2,hco2,hi1,hi2,hnb,hb6⟩;obtain⟨v6,n6,c6,rfl⟩:=qg (Sl.qc hr1);obtain⟨v7,n7,c7,rfl⟩:=qg hs2;have hin2:In0 (canon K0) (co L2):=by rw[hco2];exact hi2
  have hnb2:∀ d,nb (co L2 d)<=4004:=fun d=>by rw[hco2];have:=(hnb d).2;omega
  have tok2:TOk 4004 (ctm L2):=q9i H.out.2.cl H.out.2.ok hCn2 hin2 hnb2;have l2:=q6u hCn2 hin2;have hlen:=HX.out.2.2.2.2.2.len;have HZ:=lhd (aiq hCn2 (aiq hco2 (aiq hs2 (aiq hi2 (aiq hnb2 (aiq tok2 (aiq l2 (aiq hlen hb6))))))));clear hr1 hCn1 hco1 hs2 hCn2 hco2 hi1 hi2 hnb hb6 hin2 hnb2 tok2 l2 hlen HC2;go_wp2_with fail;have hB46:Below w4.heap.size w4 w6:=HY.out.1.trans (HZ.out.2.2.2.2.2.2.2.2.mono HY.out.1.size);refine(qbw _ _ (ctm [(id,1)]) (ctm L2) 4004 w6 (HX.out.1.q8 hB46) HZ.out.2.2.1 (HX.out.2.2.2.1.mono (by omega)) HZ.out.2.2.2.2.2.1 (by rw[qz,qz];have:=HZ.out.2.2.2.2.2.2;show _+1+_<=_;omega)).mono ?_;rintro e w7 ⟨r8,rfl,⟨L8,cn8,cv8,ln8,row8⟩,hb8⟩;obtain⟨v8,n8,c8,rfl⟩:=qg (Sl.qc row8);have HW:=lhd (aiq cn8 (aiq cv8 (aiq row8 hb8)));have HB46:=lhd hB46;clear cn8 cv8 ln8 row8 hb8 hB46;go_wp2_with fail;go_ret;obtain⟨cn8,cv8,row8,hb8⟩:=HW.out;have e8:co L8=upF (canon K0) (mhi K0 ps) id:=funext fun d=>by
   rw[cv8,zv,zv,vg,HZ.out.2.1];rfl
  have hw6:Below w.heap.size w w6:=HB1.out.trans ((HX.out.2.1.trans (HB46.out.mono HX.out.2.1.size)).mono HB1.out.size);have hidK:id∈(canon K0).map Cl.id:=by
   obtain⟨x,hx,he⟩:=List.any_eq_true.1 HH.out;have he:x.id=id:=by simpa using he
   exact he ▸ List.mem_map_of_mem hx
  refine⟨_,L8,rfl,cn8,?_,qf row8 hw6.size,fun d hd=>?_,fun d=>?_,hw6.trans (hb8.mono hw6.size)⟩
  ·rw[e8];unfold upX;rw[if_pos ⟨H.out.1,HH.out,HPE.out.symm⟩]
  ·rw[cv8,zv,zv,vg] at hd;by_cases h0:d=id
   ·rw[h0];exact hidK
   ·have:co L2 d≠0:=fun e=>hd (by rw[e];unfold qw;rw[if_neg h0];rfl)
    rw[HZ.out.2.1] at this;exact HZ.out.2.2.2.1 d this
  ·rw[cv8,zv,zv,vg];have h1:=qbn (qw id 1 d) (co L2 d);have h2:=HZ.out.2.2.2.2.1 d;have h3:nb (qw id 1 d)<=1:=by
    unfold qw;split
    ·exact q31 _ _ (by decide)
    ·rw[q0g];omega
   omega
end Go.Proofs.YtlhicnfeajejhaaGreatDoor
