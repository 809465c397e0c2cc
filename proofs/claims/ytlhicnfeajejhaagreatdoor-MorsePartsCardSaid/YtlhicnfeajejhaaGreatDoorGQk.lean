/- Steps towards MorseParts. Conditions: none. -/
import Derived.Test.YtlhicnfeajejhaaGreatDoorGQj
set_option maxRecDepth 1000000
set_option maxHeartbeats 16000000
namespace Go.Proofs.YtlhicnfeajejhaaGreatDoor
open Go.RowKit Go.Cx
attribute [local go_sem ↓] Go.wp_at_zero Go.wp_at_succ
theorem qps (v:Value) (L:List Int) (x:Int) (w:World) (h:Sl w 1 v (ints L)) :
  Calls Tryz.prog 118 #[v,.int .i64 x] w fun e w'=>∃ i:Int,e = .returned (.int .i64 i)/\q2s L (fun y=>y == x) i/\BwQ w w':=by
 obtain⟨a,len,cap,rfl,h1,h2,h3,h4,h5⟩:=h;unfold maxLen at h2;rw[xl] at h3;have hl:L.length=len:=by omega
 clear h3;have Hl:=lhd hl;clear hl;have H4:=lhd h4;clear h4;have H5:=lhd h5;clear h5;go_enter Tryz.func118,Tryz.ntmps118;go_wp2;go_loopw [5,8] (fun _ i wr=>∃ k:Nat,i = .int .i64 k/\k<=len/\Hid (∀ t∈L.take k,(t == x)=false)/\BwQ w wr) (fun _ i _=>len - (vI i).toNat)
 case atStart=>exact⟨0,rfl,go _,(show Hid _ from fun t ht=>by simp at ht),Below.refl _ _⟩
 case round =>
  obtain⟨k,rfl,hk,HN,hB⟩:=hrel;by_cases hlt:k < len
  ·obtain⟨ad,rfl⟩:=sadq H4.out (by omega)
   obtain⟨t,ht⟩ : ∃ t,L[k]? = some t:=⟨_,g8 (by rw[Hl.out];exact hlt)⟩
   have e0:(ints L)[k]? = some (.int .i64 t):=by simp[ints,ht]
   have d0:wr.cell? (ad.add k)=some (.int .i64 t):=q8 hB (H5.out ad rfl _ _ e0);have HT:=lhd ht;clear e0 ht;by_cases hft:t=x
   ·have fi:=lhd (show (t == x)=true by simpa using hft);subst hft;go_wp2;go_ret;exact⟨k,rfl,.inr ⟨k,t,rfl,HT.out,fi.out,HN.out⟩,hB⟩
   ·have mo:(x == t)=false:=by simpa using fun e:x=t=>hft e.symm
    have fi:=lhd (show (t == x)=false by simpa using hft);clear hft;go_wp2;go_roundw
    case measure=>simp[vI];omega
    case rel =>
     refine⟨k+1,qh (by omega),by omega,(show Hid _ from fun u hu=>?_),hB⟩;rw[gq,HT.out] at hu;rcases gF.1 hu with hu | hu
     ·exact HN.out u hu
     ·simp at hu;rw[hu];exact fi.out
  ·have bE:k=len:=by omega
   have eZ:=lhd bE;clear bE;go_wp2;go_ret;refine⟨-1,rfl,.inl ⟨rfl,?_⟩,hB⟩;have hn:=HN.out;rw[gm (by rw[Hl.out,eZ.out];exact nlr _)] at hn;exact hn
end Go.Proofs.YtlhicnfeajejhaaGreatDoor
namespace Go.Cx
open Go.Proofs.YtlhicnfeajejhaaGreatDoor
noncomputable def bdE (K:List Cl) (hi lo:Int->Int) (d:Int) (i j:Nat):Int:=q85 K hi lo (bdD K ((q27 K hi lo d).getD j 0) 1) ((q27 K hi lo (d - 1)).getD i 0)
theorem qga {L:List (Int×Int)} {q:Nat} {p:Int×Int} (hq:L[q]? = some p) (d:Int):co (L.take (q+1)) d=co (L.take q) d+if p.1=d then p.2 else 0:=by rw[gq,hq];show co (L.take q++[p]) d=_;rw[ji];show _+((if p.1=d then p.2 else 0)+0)=_;rw[bD]
theorem qsq {L:List (Int×Int)} (hL:Cn L) {q:Nat} {p:Int×Int} (hq:L[q]? = some p):co (L.take q) p.1=0:=by
 refine q0j _ _ fun r hr e=>?_
 obtain⟨i,hi,rfl⟩:=List.mem_take_iff_getElem.1 hr;obtain⟨Mu,rfl⟩:=ge.1 hq;have:=gN.1 hL.1 i q (by omega) Mu (by omega);omega
theorem qsx {rows:List Int} (lR:rows.Pairwise (· < ·)) {L:List (Int×Int)} (hL:Cn L) {q i0 nc k:Nat} {c x:Int} (hq:L[q]? = some (c,x)) (hi0:rows[i0]? = some c) (hk:k < nc) (M:Nat->Nat->Int) (t:Nat) (ht:t < rows.length*nc) :
  (if t=i0*nc+k then x else if t % nc < k then M (t / nc) (t % nc) else if t % nc=k then co (L.take q) (rows.getD (t / nc) 0) else 0)=if t % nc < k then M (t / nc) (t % nc) else if t % nc=k then co (L.take (q+1)) (rows.getD (t / nc) 0) else 0:=by
 by_cases h:t=i0*nc+k
 ·have h1:t % nc=k:=by rw[h,Nat.add_comm,Nat.add_mul_mod_self_right,Nat.mod_eq_of_lt hk]
  have h2:t / nc=i0:=by rw[h,Nat.add_comm,Nat.add_mul_div_right _ _ (by omega),Nat.div_eq_of_lt hk,Nat.zero_add]
  rw[if_pos h,h1,h2,if_neg (by omega),if_pos rfl,qga hq,gO,hi0];show x=co (L.take q) c+if c=c then x else 0
  rw[if_pos rfl,qsq hL hq,Int.zero_add]
 ·rw[if_neg h];by_cases h1:t % nc < k
  ·rw[if_pos h1,if_pos h1]
  ·rw[if_neg h1,if_neg h1];by_cases h2:t % nc=k
   ·rw[if_pos h2,if_pos h2,qga hq,if_neg,bD];intro he;have he:c=rows.getD (t / nc) 0:=he;have hlt:t / nc < rows.length:=(Nat.div_lt_iff_lt_mul (by omega)).2 ht;rw[gO,g8 hlt] at he;obtain⟨ed,hie⟩:=ge.1 hi0;have he:c=rows[t / nc]:=he;have WU:t / nc=i0:=by
     rcases Nat.lt_trichotomy (t / nc) i0 with hl | hl | hl
     ·have:=gN.1 lR _ _ hlt ed hl;omega
     ·exact hl
     ·have:=gN.1 lR _ _ ed hlt hl;omega
    have:=Nat.div_add_mod t nc;rw[WU,h2,Nat.mul_comm] at this;exact h this.symm
   ·rw[if_neg h2,if_neg h2]
theorem qsy {rows:List Int} (lR:rows.Pairwise (· < ·)) {c i:Int} {i0:Nat} (hi0:rows[i0]? = some c) (h:Go.Proofs.YtlhicnfeajejhaaGreatDoor.q2s rows (fun y=>y == c) i):i=i0:=by
 rcases h with ⟨_,h⟩ | ⟨k,t,rfl,hk,ht,_⟩
 ·have:=h c (gh hi0);simp at this
 ·have ht:t=c:=by simpa using ht
  subst ht;obtain⟨a1,a2⟩:=ge.1 hk;obtain⟨b1,b2⟩:=ge.1 hi0;rcases Nat.lt_trichotomy k i0 with hl | hl | hl
  ·have:=gN.1 lR _ _ a1 b1 hl;omega
  ·rw[hl]
  ·have:=gN.1 lR _ _ b1 a1 hl;omega
end Go.Cx
namespace Go.Proofs.YtlhicnfeajejhaaGreatDoor
open Go.Cx Go.RowKit
attribute [local go_sem ↓] Go.wp_at_zero Go.wp_at_succ
theorem qre {K:List Cl} (G:Cx.Good K) (hi lo:Int->Int) (d:Int):(q27 K hi lo d).length<=K.length:=by unfold q27;refine gl (gQ _ _) ?_;rw[G.ids,gn];exact gQ _ _
theorem _root_.Go.Cx.Gs.setCell {S:Nat->Prop} {w w':World} (h:Gs S w w') {p:Addr} (hp:S p.block) (v:Value):Gs S w (w'.setCell p v) :=
 h.trans ⟨rfl,rfl,rfl,by simp[World.setCell],fun k hk hn=>Below.heap_setCell _ _ _ _ (fun e=>hn (e ▸ hp))⟩
theorem EW.gs {S:Nat->Prop} {w w':World} {E N:Nat} {f:Nat->Int} (h:EW w E N f) (g:Gs S w w') (hs:¬ S E) (hl:E < w.heap.size):EW w' E N f:=fun i hi=>by obtain⟨h1,h2,h3,h4⟩:=h i hi;exact⟨g.cell hs h1,g.cell hs h2,g.frozen hl hs h3,g.frozen hl hs h4⟩
theorem qsc (w:World) (p:Nat):(Instr.fieldAt 71 (.pointer (some ⟨p,0,none⟩)) 0).run Tryz.prog w = .ok (.pointer (some ⟨p,0,none⟩)) w:=by simp[go_sem]
theorem qrx (w:World) (p:Nat):(Instr.fieldAt 71 (.pointer (some ⟨p,0,none⟩)) 1).run Tryz.prog w = .ok (.pointer (some ⟨p,1,none⟩)) w:=by simp[go_sem]
theorem qry (w:World) (x y:Int) (h:IntKind.i64.wrap (x*y)=x*y):(Go.binOp .mul 3 (.int .i64 x) (.int .i64 y)).run Tryz.prog w = .ok (.int .i64 (x*y)) w:=by simp[go_sem,h]
theorem qrz (w:World) (x y:Int) (h:IntKind.i64.wrap (x+y)=x+y):(Go.binOp .add 3 (.int .i64 x) (.int .i64 y)).run Tryz.prog w = .ok (.int .i64 (x+y)) w:=by simp[go_sem,h]
theorem qqx {w:World} {b:Nat} {x:Int} (h0:w.cell? ⟨b,1,none⟩=some (.bool (decide (x < 0)))) (h1:w.cell? ⟨b,2,none⟩=some (.string (mg x))):(Instr.loadAt 38 (.pointer (some ⟨b,1,none⟩))).run Tryz.prog w = .ok (wv x) w:=by show _=Result.ok (Value.agg #[.bool (decide (x < 0)),.string (mg x)]) w;simp[go_sem,h0,h1]
theorem qks {w:World} {b:Nat} {u0 u1 u2:Value} (c0:w.cell? ⟨b,0,none⟩=some u0) (c1:w.cell? ⟨b,1,none⟩=some u1) (c2:w.cell? ⟨b,2,none⟩=some u2) (x y z:Value) :
  (((w.setCell ⟨b,0,none⟩ x).setCell ⟨b,1,none⟩ y).setCell ⟨b,2,none⟩ z).cell? ⟨b,0,none⟩=some x/\(((w.setCell ⟨b,0,none⟩ x).setCell ⟨b,1,none⟩ y).setCell ⟨b,2,none⟩ z).cell? ⟨b,1,none⟩=some y/\(((w.setCell ⟨b,0,none⟩ x).setCell ⟨b,1,none⟩ y).setCell ⟨b,2,none⟩ z).cell? ⟨b,2,none⟩=some z :=
 ⟨yi (yi (World.cell?_setCell_same' _ _ _ (by rw[c0];rfl)) (by simp)) (by simp),yi (World.cell?_setCell_same' _ _ _ (by rw[yi c1 (by simp)];rfl)) (by simp),World.cell?_setCell_same' _ _ _ (by rw[yi (yi c2 (by simp)) (by simp)];rfl)⟩
theorem qrb:∀ args w,(callFunc 118 args).run Tryz.prog w = .ok (.enter 118 args) w:=q7b Tryz.func118 (by kernel_rfl) (by kernel_rfl)
theorem qsd (v pvv:Value) (l:List Ce) (ps:List (Int×Int)) (w:World) (h:SlC w v l) (hl:l.length<=200) (hok:COk l) (hp:Sl w 2 pvv (pv ps)) (hpI:∀ p∈ps,I64 p.1/\I64 p.2) (dim:Int) (hd : -1000<=dim/\dim<=1000) :
  Calls Tryz.prog 54 #[.agg #[v],pvv,.int .i64 dim] w fun e w'=>BwQ w w' ∧
   ((opE (l.map Ce.cl) ps≠0/\e = .returned (.agg #[.int .i64 0,.int .i64 0,.slice none 0 0])) ∨
    (opE (l.map Ce.cl) ps=0/\∃ E nr nc:Nat,nr=(yt (l.map Ce.cl) ps (dim - 1)).length/\nc=(yt (l.map Ce.cl) ps dim).length/\e = .returned (.agg #[.int .i64 nr,.int .i64 nc,.slice (some ⟨E,0,none⟩) (nr*nc) (nr*nc)])/\w.heap.size<=E/\E < w'.heap.size ∧
     EW w' E (nr*nc) (fun t=>bdE (canon (l.map Ce.cl)) (mhi (l.map Ce.cl) ps) (mlo (l.map Ce.cl) ps) dim (t / nc) (t % nc)))):=by
 obtain⟨a,len,cap,rfl⟩:=qg h.1;obtain⟨a1,fj,kX,rfl⟩:=qg hp;obtain⟨W,hW⟩ : ∃ W,W=(w.alloc (.cells #[.slice a len cap] 26)).alloc (.cells #[.int .i64 0,.int .i64 0,.slice none 0 0] 44):=⟨_,rfl⟩
 have hB:BwQ w W:=by rw[hW];exact(bal w _).alloc (by simp) _
 have hc:=q6s (.slice a len cap) (.slice a1 fj kX) l ps _ (h.q8 hB) (by omega) hok (hp.q8 hB) hpI;have HC:=lhd hc;have HB:=lhd hB;obtain⟨K0,hK0⟩ : ∃ K0,K0=l.map Ce.cl:=⟨_,rfl⟩
 have HL:=lhd (show K0.length<=200 by rw[hK0,gn];exact hl);rw[<-hK0] at HC ⊢;clear hc hB h hl hok hp hpI hK0;go_enter Tryz.func54,Tryz.ntmps54;go_wp2_with fail;rw[<-hW];refine HC.out.mono ?_;rintro e w1 ⟨ak,hr⟩;have aV:=lhd ((btr HB.out ak));have m0:W.cell? ⟨w.heap.size+1,0,none⟩=some (.int .i64 0):=by rw[hW];simp
 have m1:W.cell? ⟨w.heap.size+1,1,none⟩=some (.int .i64 0):=by rw[hW];simp
 have m2:W.cell? ⟨w.heap.size+1,2,none⟩=some (.slice none 0 0):=by rw[hW];simp
 have mz:∀ j,W.frozen? ⟨w.heap.size+1,j,none⟩=false:=fun j=>by rw[hW];simp
 have uJ:w.heap.size+1 < W.heap.size:=by rw[hW];simp
 obtain⟨ob,wu⟩ : ∃ ob,ob=w.heap.size+1:=⟨_,rfl⟩
 rw[<-wu] at m0 m1 m2 mz uJ ⊢;have ft:w.heap.size<=ob:=by omega
 have q0:=Cx.q8 ak m0;have q1:=Cx.q8 ak m1;have q2:=Cx.q8 ak m2;have z0:=qv ak uJ (mz 0);have z1:=qv ak uJ (mz 1);have z2:=qv ak uJ (mz 2);have HM:=lhd (aiq q0 (aiq q1 (aiq q2 (aiq z0 (aiq z1 (aiq z2 (aiq ft (gM uJ ak.size))))))));clear m0 m1 m2 mz uJ wu ak hW ft;rcases hr with ⟨E,h1,rfl,h2⟩ | ⟨h2,h3,T,rfl,h4⟩
 ·have hb:(E != 0)=true:=by simpa using h1
  have H:=lhd (aiq h1 h2);clear h1 h2;go_wp2_with fail;obtain⟨q0,q1,q2,z0,z1,z2,ft,kY⟩:=HM.out;obtain⟨f0,f1,f2⟩:=qks q0 q1 q2 (.int .i64 0) (.int .i64 0) (.slice none 0 0);refine bodyPost_ret (v:=.agg #[.int .i64 0,.int .i64 0,.slice none 0 0]) (by simp[results,Tryz.results54,go_sem,f0,f1,f2]) rfl ⟨((aV.out.setCell ft _).setCell ft _).setCell ft _,.inl ⟨by rw[H.out.2];exact H.out.1,rfl⟩⟩
 obtain⟨BS,BH,BL,Rb,a2,n,c,mm,hF,qL,Mv,IL,IM⟩:=h4.fm h3;have fQ:(canon K0).length<=200:=by rw[q0z];exact HL.out
 have lU:yt K0 ps (dim - 1)=q27 (canon K0) (mhi K0 ps) (mlo K0 ps) (dim - 1):=by unfold yt;rw[if_pos h2]
 have lV:yt K0 ps dim=q27 (canon K0) (mhi K0 ps) (mlo K0 ps) dim:=by unfold yt;rw[if_pos h2]
 obtain⟨K,hK⟩ : ∃ K,K=canon K0:=⟨_,rfl⟩
 obtain⟨hi,jZ⟩ : ∃ hi,hi=mhi K0 ps:=⟨_,rfl⟩
 obtain⟨lo,pz⟩ : ∃ lo,lo=mlo K0 ps:=⟨_,rfl⟩
 rw[<-hK,<-jZ,<-pz] at hF lU lV;have uk:=lhd (aiq hK (aiq jZ pz));rw[<-hK] at fQ;obtain⟨rows,eV⟩ : ∃ rows,rows=q27 K hi lo (dim - 1):=⟨_,rfl⟩
 obtain⟨fT,fU⟩ : ∃ fT,fT=q27 K hi lo dim:=⟨_,rfl⟩
 rw[<-eV] at lU;rw[<-fU] at lV;obtain⟨nr,Mw⟩ : ∃ nr,nr=rows.length:=⟨_,rfl⟩
 obtain⟨nc,IP⟩ : ∃ nc,nc=fT.length:=⟨_,rfl⟩
 have tG:nr<=200:=by rw[Mw,eV];exact gl (qre hF.good _ _ _) fQ
 have oY:nc<=200:=by rw[IP,fU];exact gl (qre hF.good _ _ _) fQ
 have rq:rows.Pairwise (· < ·):=by rw[eV];exact qp5 hF.good _
 have H:=lhd (aiq h2 (aiq hF (aiq eV (aiq fU (aiq Mw (aiq IP rq))))));have HX:=lhd (aiq lU (aiq lV fQ));have g1:((nr:Int) > 200)=False:=by simp;omega
 have g2:((nc:Int) > 200)=False:=by simp;omega
 clear h2 h3 h4 hF qL Mv IL IM q0 q1 q2 z0 z1 z2 hK jZ pz eV fU Mw IP rq lU lV fQ;go_wp2_with fail;refine(qof H.out.2.1 (dim - 1)).mono ?_;rintro e w2 ⟨r2,rfl,lW,aj⟩;rw[<-H.out.2.2.1,<-H.out.2.2.2.2.1] at lW;obtain⟨v2,er,c2,rfl⟩:=qg (Sl.qc lW);have eL:=H.out.2.1.q8 aj;have HR:=lhd (aiq lW (aiq aj eL));clear lW aj eL;go_wp2_with fail;refine(qof HR.out.2.2 dim).mono ?_;rintro e w3 ⟨r3,rfl,kZ,aQ⟩;rw[<-H.out.2.2.2.1,<-H.out.2.2.2.2.2.1] at kZ;obtain⟨v3,aJ,c3,rfl⟩:=qg (Sl.qc kZ);have e2:er=nr:=by obtain⟨_,_,_,he,_,_,h3,_⟩:=(Sl.qc HR.out.1);cases he;rw[xl,<-H.out.2.2.2.2.1] at h3;omega
 have e3:aJ=nc:=by obtain⟨_,_,_,he,_,_,h3,_⟩:=(Sl.qc kZ);cases he;rw[xl,<-H.out.2.2.2.2.2.1] at h3;omega
 subst e2 e3;have lE:=Sl.qc kZ;have Ri:=HR.out.2.2.q8 aQ;have HS:=lhd (aiq ((Sl.qc HR.out.1).q8 aQ) (aiq lE (aiq aQ Ri)));have tl:BwQ w w3:=aV.out.trans (((btr HR.out.2.1 aQ)).mono aV.out.size);have fC:=lhd tl;clear kZ aQ lE Ri tl;go_wp2_with fail;refine(qqn er aJ w3 tG oY).mono ?_;rintro e w4 ⟨E,rfl,FP,BF,uK,aM⟩;obtain⟨N,hN⟩ : ∃ N,N=er*aJ:=⟨_,rfl⟩
 rw[<-hN] at uK ⊢;have HE:=lhd (aiq FP (aiq BF (aiq uK (aiq aM hN))));clear FP BF uK aM hN;go_wp2_with fail;obtain⟨V,hV⟩ : ∃ V,V=w4.alloc (.cells #[.int .i64 er,.int .i64 aJ,.slice (some ⟨E,0,none⟩) N N] 44):=⟨_,rfl⟩
 rw[<-hV];obtain⟨pb,mF⟩ : ∃ pb,pb=w4.heap.size:=⟨_,rfl⟩
 have u0:V.cell? ⟨pb,0,none⟩=some (.int .i64 er):=by rw[hV,mF];exact qd w4 _ _ (0,0) 0
 have u1:V.cell? ⟨pb,1,none⟩=some (.int .i64 aJ):=by rw[hV,mF];exact qd w4 _ _ (0,0) 1
 have u2:V.cell? ⟨pb,2,none⟩=some (.slice (some ⟨E,0,none⟩) N N):=by rw[hV,mF];exact qd w4 _ _ (0,0) 2
 have lX:BwQ w4 V:=by rw[hV];exact bal w4 _
 rw[<-mF];have wA:E≠pb:=by have:=HE.out.2.1;omega
 have FT:=HE.out.2.2.1.q8 lX HE.out.2.1;have jR:BwQ w3 V:=(btr HE.out.2.2.2.1 lX);have HV:=lhd (aiq u0 (aiq u1 (aiq u2 (aiq wA (aiq FT (aiq jR (gM HE.out.2.1 lX.size)))))));clear u0 u1 u2 lX wA FT jR hV mF;have far:∀ U,Gs (fun b=>b=E) V U->BwQ w3 U/\U.cell? ⟨pb,0,none⟩=some (.int .i64 er)/\U.cell? ⟨pb,1,none⟩=some (.int .i64 aJ)/\U.cell? ⟨pb,2,none⟩=some (.slice (some ⟨E,0,none⟩) N N):=fun U hU=>by
  obtain⟨u0,u1,u2,wA,_,jR,_⟩:=HV.out;have hb:¬ (pb=E):=fun e=>wA e.symm
  exact⟨jR.trans (hU.below jR.size fun b h=>by rw[h];exact HE.out.1),hU.cell hb u0,hU.cell hb u1,hU.cell hb u2⟩
 have BG:=lhd far;clear far;go_wp2_with fail;go_loopw [49] (fun i wr=>∃ k:Nat,i = .int .i64 k/\k<=aJ/\Hid (EW wr E N (fun t=>if t % aJ < k then bdE K hi lo dim (t / aJ) (t % aJ) else 0)/\Gs (fun b=>b=E) V wr)) (fun i _=>aJ - (vI i).toNat)
 case atStart=>exact⟨0,rfl,go _,HV.out.2.2.2.2.1.congr fun t _=>by rw[if_neg (by omega)],Gs.refl _ _⟩
 case round =>
  obtain⟨k,rfl,hk,ct⟩:=hrel;by_cases hlt:k < aJ
  ·obtain⟨wo,de⟩ : ∃ wo,wo=wr:=⟨_,rfl⟩
   subst de;obtain⟨_,_,_,wa,y1,y2,y3,y4,y5⟩:=HS.out.2.1;cases wa
   obtain⟨ad,rfl⟩:=sadq y4 (by omega)
   have iD:fT.length=aJ:=H.out.2.2.2.2.2.1.symm;obtain⟨id,hid⟩ : ∃ id,fT[k]? = some id:=⟨_,g8 (by rw[iD];exact hlt)⟩
   obtain⟨lY,Mx,My,Mz⟩:=BG.out wo ct.out.2;have d0:wo.cell? (ad.add k)=some (.int .i64 id):=Cx.q8 lY (y5 ad rfl _ _ (by simp[ints,hid]));have M0:=HS.out.2.2.2.q8 lY;have t0:=M0.fld.t0;have iP:∃ y∈K,y.id=id/\y.dim=dim - 1+1:=by have:=gh hid;rw[H.out.2.2.2.1] at this;obtain⟨⟨y,hy,h1,h2⟩,_⟩:=(qiu H.out.2.1.good).1 this;exact⟨y,hy,h1,by omega⟩
   have jS:I64 id:=by obtain⟨y,hy,rfl,_⟩:=iP;exact q4s H.out.2.1.cl H.out.2.1.ok (gG hy)
   have HK:=lhd (aiq hid (aiq lY (aiq M0 (aiq iP jS))));clear y1 y2 y3 y4 y5 iD hid lY M0 iP jS Mx My Mz;go_wp2_with fail;refine(qgv 1 _ (by decide) (by decide)).mono ?_;rintro e w5 ⟨rfl,cU⟩;have t5:=Cx.q8 cU t0;have eA:Sl (w5.alloc (.cells #[.int .i64 id,.bool false,.string (mg 1)] 71)) 3 (.slice (some ⟨w5.heap.size,0,none⟩) 1 1) (tv (ctm [(id,1)])):=q13 w5 71 3 [.int .i64 id,.bool (decide ((1:Int) < 0)),.string (mg 1)] 1 rfl (by unfold maxLen;omega);have vZ:=lhd cU;clear t0 d0 cU;unfold wv;go_upto_region 12 with fail;obtain⟨w6,mC⟩ : ∃ w6,w6=w5.alloc (.cells #[.int .i64 id,.bool false,.string (mg 1)] 71):=⟨_,rfl⟩
   have t6:w6.cell? ⟨T,0,none⟩=some (.slice a2 n c):=by rw[mC];exact qk t5 _
   have B6:BwQ wo w6:=by rw[mC];exact vZ.out.alloc vZ.out.size _
   rw[<-mC] at eA ⊢;have IQ:=HK.out.2.2.1.q8 B6;have cp:TOk 1 (ctm [(id,1)]):=LOk.tok fun p hp=>by
    have:p=(id,1):=by simpa using hp
    rw[this];exact⟨HK.out.2.2.2.2,q31 1 1 (by decide)⟩
   have fs:(zk mm).length<=256000:=by rw[q2q,IQ.cl];exact q6v IQ.good
   have lf:=lhd (aiq eA (aiq B6 (aiq IQ (aiq cp fs))));clear eA B6 IQ cp fs mC t5;go_wp2_with fail;refine(q5y _ mm _ (ctm [(id,1)]) 1 w6 lf.out.2.2.1.fld.row lf.out.2.2.1.ok lf.out.1 lf.out.2.2.2.1 (by rw[qz];have:=lf.out.2.2.2.2;show _+1+_<=_;omega)).mono ?_;rintro e w7 ⟨r7,rfl,⟨Lb,M3,Rj,WV,BI⟩,mE⟩;obtain⟨v7,n7,c7,rfl⟩:=qg (Sl.qc BI);have hG:=lf.out.2.2.1.good;have dI:co Lb=bdD K id 1:=funext fun d=>by rw[Rj,zv,vg,q2q,lf.out.2.2.1.cl];rfl
   have M4:In0 K (co Lb):=by rw[dI];exact qcu hG id 1
   have Rk:∀ d,nb (co Lb d)<=1:=fun d=>by rw[dI];exact qod hG id d
   have FU:TOk 1 (ctm Lb):=q9i lf.out.2.2.1.cl lf.out.2.2.1.ok M3 M4 Rk;have l7:=q6u M3 M4;have wB:=HX.out.2.2;have Rm:=lf.out.2.2.1.q8 mE;have eS:=lhd (aiq BI (aiq mE (aiq dI (aiq FU (aiq Rm (gl l7 wB))))));clear BI mE dI FU Rm l7 wB M3 Rj WV M4 Rk hG t6;go_wp2_with fail;refine(qoe eS.out.2.2.2.2.1 _ (ctm Lb) 1 (Sl.qc eS.out.1) eS.out.2.2.2.1 (by rw[qz];have:=eS.out.2.2.2.2.2;omega)).mono ?_;rintro e w8 ⟨r8,L,rfl,rp,nE,eC,M5,Rn,mQ⟩;rw[zv,eS.out.2.2.1] at nE;obtain⟨v8,n8,c8,rfl⟩:=qg (Sl.qc eC);have e8:n8=L.length:=by obtain⟨_,_,_,he,_,_,h3,_⟩:=(Sl.qc eC);cases he;rw[z6,qz] at h3;omega
   have ru:BwQ wo w8:=lf.out.2.1.trans (((btr eS.out.2.1 mQ)).mono lf.out.2.1.size);have BK:E < wo.heap.size:=gM HV.out.2.2.2.2.2.2 ct.out.2.size;have tH:=ct.out.1.q8 ru BK;have FV:Gs (fun b=>b=E) V w8:=ct.out.2.trans (Gs.xh ru);have Ro:=Sl.qc eC;have Zz:n8<=4000:=by rw[e8];exact gl (q6u rp M5) H.out.2.1.good.len
   have tI:∀ g,(Value.slice v8 n8 c8).ownBlock=some g->wo.heap.size<=g:=fun g hg=>gl (gl lf.out.2.1.size eS.out.2.1.size) (eC.lt g hg).1
   have lZ:=lhd (aiq rp (aiq nE (aiq Ro (aiq Rn (aiq tH (aiq FV (aiq BK (aiq e8 (aiq tI M5)))))))));clear rp nE eC M5 Rn mQ ru tH FV Ro BK e8 tI;go_wp2_with fail;go_loopw [67] (fun i wr=>∃ q:Nat,i = .int .i64 q/\q<=n8/\Hid (EW wr E N (fun t=>if t % aJ < k then bdE K hi lo dim (t / aJ) (t % aJ) else if t % aJ=k then co (L.take q) (rows.getD (t / aJ) 0) else 0)/\Gs (fun b=>b=E) w8 wr)) (fun i _=>n8 - (vI i).toNat)
   case atStart=>exact⟨0,rfl,go _,lZ.out.2.2.2.2.1.congr fun t _=>by
    by_cases h1:t % aJ < k
    ·rw[if_pos h1,if_pos h1]
    ·rw[if_neg h1,if_neg h1,List.take_zero];split <;> rfl,Gs.refl _ _⟩
   case round =>
    obtain⟨q,rfl,hq,e9⟩:=hrel;by_cases Mu:q < n8
    ·obtain⟨_,_,_,wa,y1,y2,y3,y4,y5⟩:=lZ.out.2.2.1;cases wa
     obtain⟨pS,rfl⟩:=sadq y4 (by omega)
     obtain⟨⟨cc,x⟩,kL⟩ : ∃ p,L[q]? = some p:=⟨_,g8 (by rw[<-lZ.out.2.2.2.2.2.2.2.1];exact Mu)⟩
     obtain⟨e0,e1,e2⟩:=jd (ctm L) q ⟨cc,decide (x < 0),mg x⟩ (by unfold ctm;rw[List.getElem?_map,kL];rfl);have FW:¬ (pS.block=E):=fun e=>by have h1:=lZ.out.2.2.2.2.2.2.1;have h2:=lZ.out.2.2.2.2.2.2.2.2.1 pS.block (by cases pS;rfl);omega
     have hblk:∀ j,(pS.add j).block=pS.block:=fun j=>by unfold Addr.add;split <;> rfl
     have pT:¬ ((pS.add (q*3)).block=E):=by rw[hblk];exact FW
     have d0:wr.cell? (pS.add (q*3))=some (.int .i64 cc):=e9.out.2.cell pT (y5 pS rfl _ _ e0);have d1:wr.cell? ⟨(pS.add (q*3)).block,(pS.add (q*3)).off+1,none⟩=some (.bool (decide (x < 0))):=e9.out.2.cell pT (by rw[qi _ _ _ (by omega)];exact y5 pS rfl _ _ e1);have d2:wr.cell? ⟨(pS.add (q*3)).block,(pS.add (q*3)).off+2,none⟩=some (.string (mg x)):=e9.out.2.cell pT (by rw[qi _ _ _ (by omega)];exact y5 pS rfl _ _ e2);have HCX:=lhd kL;clear y1 y2 y3 y4 y5 e0 e1 e2 FW hblk pT kL;have wC:Gs (fun b=>b=E) V wr:=lZ.out.2.2.2.2.2.1.trans e9.out.2;obtain⟨iQ,_,_,Rp⟩:=BG.out wr wC;have me:E < wr.heap.size:=gM HV.out.2.2.2.2.2.2 wC.size;obtain⟨wm,oC⟩ : ∃ wm,wm=wr.alloc (.cells #[.int .i64 cc,.bool (decide (x < 0)),.string (mg x)] 71):=⟨_,rfl⟩
     obtain⟨mp,eG⟩ : ∃ mp,mp=wr.heap.size:=⟨_,rfl⟩
     have m0:wm.cell? ⟨mp,0,none⟩=some (.int .i64 cc):=by rw[oC,eG];exact qd wr _ _ (0,0) 0
     have m1:wm.cell? ⟨mp,1,none⟩=some (.bool (decide (x < 0))):=by rw[oC,eG];exact qd wr _ _ (0,0) 1
     have m2:wm.cell? ⟨mp,2,none⟩=some (.string (mg x)):=by rw[oC,eG];exact qd wr _ _ (0,0) 2
     have uL:BwQ wr wm:=by rw[oC];exact bal wr _
     have o2:=Cx.q8 uL Rp;have jT:=(HS.out.1.q8 iQ).q8 uL;have FX:cc∈rows:=by rw[H.out.2.2.1];refine qsp H.out.2.1.good H.out.2.1.mtc H.out.2.1.ac HK.out.2.2.2.1 ?_;rw[<-lZ.out.2.1];have hm:=gh HCX.out;have:=zl lZ.out.1.1 hm;have h2:=lZ.out.1.2 _ hm;intro e;exact h2 (this.symm.trans e)
     obtain⟨i0,BN,FY⟩:=List.getElem_of_mem FX;have hi0:rows[i0]? = some cc:=by rw[g8 BN,FY]
     have FZ:i0 < er:=by rw[H.out.2.2.2.2.1];exact BN
     obtain⟨ix,ni⟩ : ∃ ix:Nat,ix=i0*aJ+k:=⟨_,rfl⟩
     have i6:ix < N:=by rw[ni,HE.out.2.2.2.2];have h1:(i0+1)*aJ<=er*aJ:=bC _ FZ;rw[Nat.add_mul] at h1;omega
     have hmul:(i0:Int)*(aJ:Int)<=40000/\0<=(i0:Int)*(aJ:Int):=by have h1:i0*aJ<=200*200:=Nat.mul_le_mul (by omega) oY;rw[<-Int.natCast_mul];omega
     have ee:(i0:Int)*(aJ:Int)+(k:Int)=(ix:Int):=by rw[ni,Int.natCast_add,Int.natCast_mul]
     have rv:=e9.out.1.q8 uL me;have hE:∀ w',BwQ wm w'->Bx' w' E ix (if ix % aJ < k then bdE K hi lo dim (ix / aJ) (ix % aJ) else if ix % aJ=k then co (L.take q) (rows.getD (ix / aJ) 0) else 0):=fun w' h=>rv.q8 h (gM me uL.size) ix i6
     obtain⟨od,A4⟩ : ∃ od,od=(if ix % aJ < k then bdE K hi lo dim (ix / aJ) (ix % aJ) else if ix % aJ=k then co (L.take q) (rows.getD (ix / aJ) 0) else 0):=⟨_,rfl⟩
     rw[<-A4] at hE;have rq:=H.out.2.2.2.2.2.2;have HO:=lhd (aiq hi0 (aiq ni (aiq i6 (aiq uL (aiq rv (aiq wC (aiq hE (aiq hmul (aiq ee (aiq jT me))))))))));clear FY BN FX A4 iQ Rp wC uL rv;go_upto_region 15 with fail;rw[<-eG,<-oC];clear eG oC ni hi0 i6 hE hmul ee jT me rq FZ d0 d1 d2;refine qp4 fun KO M6=>?_
     go_cut [71] from 72 to 84 (fun _ wx=>∃ w',Hid (BwQ wm w')/\wx=(w'.setCell ⟨E,ix*2,none⟩ (.bool (decide (x < 0)))).setCell ⟨E,ix*2+1,none⟩ (.string (mg x)))
     case first =>
      rename_i J K2 hJ eu;obtain⟨hi0,ni,i6,uL,rv,wC,hE,hmul,ee,jT,me⟩:=HO.out;have rq:=H.out.2.2.2.2.2.2;refine qra rfl (fun i' v=>∀ x',([some (.pointer (some ⟨pb,2,none⟩)),some (.slice (some ⟨E,0,none⟩) N N),some (.slice v2 er c2),some (.pointer (some ⟨mp,0,none⟩)),some (.int .i64 cc),some (.int .i64 i0),some (.slice (some ad) aJ c3),some (.int .i64 aJ),some (.int .i64 ((i0:Int)*aJ)),some (.int .i64 k),some (.int .i64 ix),some (.pointer (some ⟨mp,1,none⟩)),some (wv x),some (.pointer (some ⟨E,ix*2,none⟩))] : List (Option Value)).getD i' none=some x'->v=x') 14 15 88 rfl (by kernel_rfl) (by kernel_rfl) (by decide) (by kernel_rfl) (by kernel_rfl) (fun a w''=>K2 a w'') ?step ?store (fun a w'' h=>h)
      case step =>
       intro i' o ho al a w' hw hd ae ao;have M7:=ae 11 (qu (by kernel_rfl));have WW:=ae 9 (qu (by kernel_rfl));have Ga:=ae 16 (qu (by kernel_rfl));have M8:=ae 10 (qu (by kernel_rfl));have M9:=ae 12 (qu (by kernel_rfl))
       match i',ho,hd with
       | 0,ho,hd =>obtain rfl:=osi ho;exact⟨rfl,gw _,q8b _ _ _ rfl _ M7 _ (qdv _ _) ⟨_,rfl,fun _ h=>osi h,Below.refl _ _⟩⟩
       | 1,ho,hd =>obtain rfl:=osi ho;exact⟨rfl,gw _,q8o _ _ rfl _ (hd 0 _ _ rfl rfl (by kernel_rfl) _ rfl) _ (qis _ _ _ _ _ (Cx.q8 hw o2)) ⟨_,rfl,fun _ h=>osi h,Below.refl _ _⟩⟩
       | 2,ho,hd =>obtain rfl:=osi ho;exact⟨rfl,gw _,q1b _ (.inl rfl) ⟨_,rfl,fun _ h=>WW.trans (osi h),Below.refl _ _⟩⟩
       | 3,ho,hd =>obtain rfl:=osi ho;exact⟨rfl,gw _,q8b _ _ _ rfl _ Ga _ (qsc _ _) ⟨_,rfl,fun _ h=>osi h,Below.refl _ _⟩⟩
       | 4,ho,hd =>obtain rfl:=osi ho;exact⟨rfl,gw _,q8o _ _ rfl _ (hd 3 _ _ rfl rfl (by kernel_rfl) _ rfl) _ (qe0 _ _ _ (Cx.q8 hw m0)) ⟨_,rfl,fun _ h=>osi h,Below.refl _ _⟩⟩
       | 5,ho,hd =>obtain rfl:=osi ho;have f0:a.tmps.getD 73 undef = .slice v2 er c2:=hd 2 _ _ rfl rfl (by kernel_rfl) _ rfl;have f1:a.tmps.getD 75 undef = .int .i64 cc:=hd 4 _ _ rfl rfl (by kernel_rfl) _ rfl;exact⟨rfl,gw _,qdj _ _ _ rfl qrb #[.slice v2 er c2,.int .i64 cc] (by simp[Act.eval,f0,f1]) ((qps _ rows cc _ (jT.q8 hw)).mono fun e w6 ⟨i,he,hf,hb⟩=>⟨_,he,_,rfl,fun _ h=>(congrArg (Value.int .i64) (qsy rq hi0 hf)).trans (osi h),hb⟩)⟩
       | 6,ho,hd =>obtain rfl:=osi ho;exact⟨rfl,gw _,q1b _ (.inl rfl) ⟨_,rfl,fun _ h=>M8.trans (osi h),Below.refl _ _⟩⟩
       | 7,ho,hd =>obtain rfl:=osi ho;exact⟨rfl,gw _,qi5 _ rfl Tryz.underlying22 _ aJ c3 (hd 6 _ _ rfl rfl (by kernel_rfl) _ rfl) ⟨_,rfl,fun _ h=>osi h,Below.refl _ _⟩⟩
       | 8,ho,hd =>obtain rfl:=osi ho;exact⟨rfl,gw _,qnf _ _ _ _ _ rfl _ _ (hd 5 _ _ rfl rfl (by kernel_rfl) _ rfl) (hd 7 _ _ rfl rfl (by kernel_rfl) _ rfl) _ rfl (qry _ _ _ (IntWalk.i64_in _ (by omega))) ⟨_,rfl,fun _ h=>osi h,Below.refl _ _⟩⟩
       | 9,ho,hd =>obtain rfl:=osi ho;exact⟨rfl,gw _,q1b _ (.inl rfl) ⟨_,rfl,fun _ h=>M9.trans (osi h),Below.refl _ _⟩⟩
       | 10,ho,hd =>obtain rfl:=osi ho;exact⟨rfl,gw _,qnf _ _ _ _ _ rfl _ _ (hd 8 _ _ rfl rfl (by kernel_rfl) _ rfl) (hd 9 _ _ rfl rfl (by kernel_rfl) _ rfl) _ rfl (qrz _ _ _ (IntWalk.i64_in _ (by omega))) ⟨_,rfl,fun _ h=>(congrArg (Value.int .i64) ee).trans (osi h),Below.refl _ _⟩⟩
       | 11,ho,hd =>obtain rfl:=osi ho;exact⟨rfl,gw _,q8b _ _ _ rfl _ Ga _ (qrx _ _) ⟨_,rfl,fun _ h=>osi h,Below.refl _ _⟩⟩
       | 12,ho,hd =>obtain rfl:=osi ho;exact⟨rfl,gw _,q8o _ _ rfl _ (hd 11 _ _ rfl rfl (by kernel_rfl) _ rfl) _ (qqx (Cx.q8 hw m1) (Cx.q8 hw m2)) ⟨_,rfl,fun _ h=>osi h,Below.refl _ _⟩⟩
       | 13,ho,hd =>obtain rfl:=osi ho;exact⟨rfl,gw _,qc9 _ _ _ rfl _ _ (hd 1 _ _ rfl rfl (by kernel_rfl) _ rfl) (hd 10 _ _ rfl rfl (by kernel_rfl) _ rfl) _ (qjr _ _ _ _ _ i6) ⟨_,rfl,fun _ h=>osi h,Below.refl _ _⟩⟩
       | 14,ho,hd=>exact absurd rfl al
       | i'+15,ho,hd =>have:i'+15 < 15:=(gp.1 ho).1;omega
      case store =>intro o ho a w' ao eH hw hf ae;obtain rfl:=osi ho;have f0:a.tmps.getD 84 undef = .pointer (some ⟨E,ix*2,none⟩):=hf 13 _ _ rfl rfl _ rfl;have f1:a.tmps.getD 83 undef=wv x:=hf 12 _ _ rfl rfl _ rfl;refine⟨rfl,qhx _ _ _ rfl _ _ f0 f1 (qjs _ _ _ _ _ _ (hE _ hw).1 (hE _ hw).2.1 (hE _ hw).2.2.1 (hE _ hw).2.2.2) ?_⟩;refine eu _ _ (Met.intro (hJ _ _ ⟨a.tmps.getD 71 undef,a.tmps.getD 72 undef,a.tmps.getD 73 undef,a.tmps.getD 74 undef,a.tmps.getD 75 undef,a.tmps.getD 76 undef,a.tmps.getD 77 undef,a.tmps.getD 78 undef,a.tmps.getD 79 undef,a.tmps.getD 80 undef,a.tmps.getD 81 undef,a.tmps.getD 82 undef,a.tmps.getD 83 undef,a.tmps.getD 84 undef,⟨w',lhd hw,rfl⟩,(q8z ao eH ae).trans ?_⟩));kernel_rfl
     case rest =>
      obtain⟨w',Gb,rfl⟩:=hcut;refine M6 _ _ ?_;go_wp2;go_roundw
      case measure=>simp[vI];omega
      case rel =>
       obtain⟨hi0,ni,i6,uL,rv,wC,hE,hmul,ee,jT,me⟩:=HO.out;have BO:=((rv.q8 Gb.out (gM me uL.size)).put ix x)
       refine⟨q+1,qh (by omega),by omega,(show Hid _ from BO.congr fun t ht=>?_),?_⟩
       ·rw[ni];exact qsx H.out.2.2.2.2.2.2 lZ.out.1 HCX.out hi0 hlt (bdE K hi lo dim) t (by rw[<-H.out.2.2.2.2.1,<-HE.out.2.2.2.2];exact ht)
       ·have dF:=(e9.out.2.trans (Gs.xh uL)).trans (Gs.xh Gb.out);exact(dF.setCell rfl _).setCell rfl _
    ·have zB:q=n8:=by omega
     subst zB;go_wp2_with fail;go_roundw
     case measure=>simp[vI];omega
     case rel =>
      refine⟨k+1,qh (by omega),by omega,(show Hid _ from e9.out.1.congr fun t ht=>?_),lZ.out.2.2.2.2.2.1.trans e9.out.2⟩;by_cases h1:t % aJ < k
      ·rw[if_pos h1,if_pos (by omega)]
      ·by_cases h2:t % aJ=k
       ·rw[if_neg h1,if_pos h2,if_pos (by omega),gm (by rw[<-lZ.out.2.2.2.2.2.2.2.1];exact nlr _),lZ.out.2.1];unfold bdE;rw[h2,<-H.out.2.2.1,<-H.out.2.2.2.1,gO (l:=fT),HK.out.1];rfl
       ·rw[if_neg h1,if_neg h2,if_neg (by omega)]
  ·have bE:k=aJ:=by omega
   subst bE;obtain⟨iQ,r0,r1,r2⟩:=BG.out wr ct.out.2;obtain⟨q0,q1,q2,z0,z1,z2,ft,kY⟩:=HM.out;have oh:BwQ w1 wr:=(HR.out.2.1.trans (((btr HS.out.2.2.1 iQ)).mono HR.out.2.1.size))
   have o0:=Cx.q8 oh q0;have o1:=Cx.q8 oh q1;have o2:=Cx.q8 oh q2;have y0:=qv oh kY z0;have y1:=qv oh kY z1;have y2:=qv oh kY z2;have aO:=lhd (aiq iQ (aiq ft oh));clear q0 q1 q2 z0 z1 z2 ft oh iQ kY;go_wp2_with fail;obtain⟨f0,f1,f2⟩:=qks o0 o1 o2 (.int .i64 er) (.int .i64 k) (.slice (some ⟨E,0,none⟩) N N);have ck:BwQ w wr:=(btr fC.out aO.out.1);have BP:¬ (E=ob):=fun e=>by have h1:=HM.out.2.2.2.2.2.2.2;have h2:=HR.out.2.1.size;have h3:=HS.out.2.2.1.size;have h4:=HE.out.1;omega
   have me:E < wr.heap.size:=gM HV.out.2.2.2.2.2.2 ct.out.2.size;refine bodyPost_ret (v:=.agg #[.int .i64 er,.int .i64 k,.slice (some ⟨E,0,none⟩) N N]) (by simp[results,Tryz.results54,go_sem,f0,f1,f2]) rfl ⟨((ck.setCell aO.out.2.1 _).setCell aO.out.2.1 _).setCell aO.out.2.1 _,.inr ⟨H.out.1,E,er,k,?_,?_,?_,?_,?_,?_⟩⟩
   ·rw[HX.out.1];exact H.out.2.2.2.2.1
   ·rw[HX.out.2.1];exact H.out.2.2.2.2.2.1
   ·rw[HE.out.2.2.2.2]
   ·exact gl fC.out.size HE.out.1
   ·simpa [World.setCell] using me
   ·rw[<-HE.out.2.2.2.2];have hg:Gs (fun b=>b=ob) wr (((wr.setCell ⟨ob,0,none⟩ (.int .i64 er)).setCell ⟨ob,1,none⟩ (.int .i64 k)).setCell ⟨ob,2,none⟩ (.slice (some ⟨E,0,none⟩) N N)):=Gs.setCell (p:=⟨ob,2,none⟩) (Gs.setCell (p:=⟨ob,1,none⟩) (Gs.setCell (p:=⟨ob,0,none⟩) (Gs.refl (fun b=>b=ob) wr) rfl _) rfl _) rfl _;refine(ct.out.1.gs hg BP me).congr fun t ht=>?_
    have dH:0 < k:=by
     rcases Nat.eq_zero_or_pos k with h0 | h0
     ·rw[HE.out.2.2.2.2,h0,Nat.mul_zero] at ht;omega
     ·exact h0
    rw[if_pos (Nat.mod_lt _ dH),<-uk.out.1,<-uk.out.2.1,<-uk.out.2.2]
end Go.Proofs.YtlhicnfeajejhaaGreatDoor
