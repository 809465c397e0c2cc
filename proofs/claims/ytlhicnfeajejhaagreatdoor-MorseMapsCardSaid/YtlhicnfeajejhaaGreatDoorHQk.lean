/- Steps towards MorseMaps. Conditions: none. -/
import Derived.Test.YtlhicnfeajejhaaGreatDoorHQj
set_option maxRecDepth 1000000
set_option maxHeartbeats 16000000
namespace Go.Proofs.YtlhicnfeajejhaaGreatDoor
open Go.RowKit Go.Cx
attribute [local go_sem ↓] Go.wp_at_zero Go.wp_at_succ
theorem qps (v:Value) (L:List Int) (x:Int) (w:World) (h:Sl w 1 v (ints L)) :
  Calls Tryz.prog 118 #[v,.int .i64 x] w fun e w'=>∃ i:Int,e = .returned (.int .i64 i)/\q2s L (fun y=>y == x) i/\Below w.heap.size w w':=by
 obtain⟨a,len,cap,rfl,h1,h2,h3,h4,h5⟩:=h;unfold maxLen at h2;rw[xl] at h3;have hl:L.length=len:=by omega
 clear h3;have Hl:=lhd hl;clear hl;have H4:=lhd h4;clear h4;have H5:=lhd h5;clear h5;go_enter Tryz.func118,Tryz.ntmps118;go_wp2;go_loopw [5,8] (fun _ i wr=>∃ k:Nat,i = .int .i64 k/\k<=len/\Hid (∀ t∈L.take k,(t == x)=false)/\Below w.heap.size w wr) (fun _ i _=>len - (vI i).toNat)
 case atStart=>exact⟨0,rfl,gp _,(show Hid _ from fun t ht=>by simp at ht),Below.refl _ _⟩
 case round =>
  obtain⟨k,rfl,hk,HN,hB⟩:=hrel;by_cases hlt:k < len
  ·obtain⟨ad,rfl⟩ : ∃ ad,a=some ad:=by
    cases a with
    | none=>have:=H4.out rfl;omega
    | some ad=>exact⟨ad,rfl⟩
   obtain⟨t,ht⟩ : ∃ t,L[k]? = some t:=⟨_,g8 (by rw[Hl.out];exact hlt)⟩
   have e0:(ints L)[k]? = some (.int .i64 t):=by simp[ints,ht]
   have d0:wr.cell? (ad.add k)=some (.int .i64 t):=q8 hB (H5.out ad rfl _ _ e0);have HT:=lhd ht;clear e0 ht;by_cases hft:t=x
   ·have eL:=lhd (show (t == x)=true by simpa using hft);subst hft;go_wp2;go_ret;exact⟨k,rfl,.inr ⟨k,t,rfl,HT.out,eL.out,HN.out⟩,hB⟩
   ·have lj:(x == t)=false:=by simpa using fun e:x=t=>hft e.symm
    have eL:=lhd (show (t == x)=false by simpa using hft);clear hft;go_wp2;go_roundw
    case measure=>simp[vI];omega
    case rel =>
     refine⟨k+1,qh (by omega),by omega,(show Hid _ from fun u hu=>?_),hB⟩;rw[gq,HT.out] at hu;rcases gH.1 hu with hu | hu
     ·exact HN.out u hu
     ·simp at hu;rw[hu];exact eL.out
  ·have bG:k=len:=by omega
   have eG:=lhd bG;clear bG;go_wp2;go_ret;refine⟨-1,rfl,.inl ⟨rfl,?_⟩,hB⟩;have hn:=HN.out;rw[gm (by rw[Hl.out,eG.out];exact nlr _)] at hn;exact hn
end Go.Proofs.YtlhicnfeajejhaaGreatDoor
namespace Go.Cx
open Go.Proofs.YtlhicnfeajejhaaGreatDoor
noncomputable def bdE (K:List Cl) (hi lo:Int->Int) (d:Int) (i j:Nat):Int:=q85 K hi lo (bdD K ((q27 K hi lo d).getD j 0) 1) ((q27 K hi lo (d - 1)).getD i 0)
theorem qga {L:List (Int×Int)} {q:Nat} {p:Int×Int} (hq:L[q]? = some p) (d:Int):co (L.take (q+1)) d=co (L.take q) d+if p.1=d then p.2 else 0:=by
 rw[gq,hq];show co (L.take q++[p]) d=_;rw[ji];show _+((if p.1=d then p.2 else 0)+0)=_;rw[bo]
theorem qsr {L:List (Int×Int)} (hL:Cn L) {q:Nat} {p:Int×Int} (hq:L[q]? = some p):co (L.take q) p.1=0:=by
 refine q0j _ _ fun r hr e=>?_
 obtain⟨i,hi,rfl⟩:=List.mem_take_iff_getElem.1 hr;obtain⟨Mo,rfl⟩:=ge.1 hq;have:=gO.1 hL.1 i q (by omega) Mo (by omega);omega
theorem qt2 {rows:List Int} (jA:rows.Pairwise (· < ·)) {L:List (Int×Int)} (hL:Cn L) {q i0 nc k:Nat} {c x:Int} (hq:L[q]? = some (c,x)) (hi0:rows[i0]? = some c) (hk:k < nc) (M:Nat->Nat->Int) (t:Nat) (ht:t < rows.length*nc) :
  (if t=i0*nc+k then x else if t % nc < k then M (t / nc) (t % nc) else if t % nc=k then co (L.take q) (rows.getD (t / nc) 0) else 0)=if t % nc < k then M (t / nc) (t % nc) else if t % nc=k then co (L.take (q+1)) (rows.getD (t / nc) 0) else 0:=by
 by_cases h:t=i0*nc+k
 ·have h1:t % nc=k:=by rw[h,Nat.add_comm,Nat.add_mul_mod_self_right,Nat.mod_eq_of_lt hk]
  have h2:t / nc=i0:=by rw[h,Nat.add_comm,Nat.add_mul_div_right _ _ (by omega),Nat.div_eq_of_lt hk,Nat.zero_add]
  rw[if_pos h,h1,h2,if_neg (by omega),if_pos rfl,qga hq,gF,hi0];show x=co (L.take q) c+if c=c then x else 0
  rw[if_pos rfl,qsr hL hq,Int.zero_add]
 ·rw[if_neg h];by_cases h1:t % nc < k
  ·rw[if_pos h1,if_pos h1]
  ·rw[if_neg h1,if_neg h1];by_cases h2:t % nc=k
   ·rw[if_pos h2,if_pos h2,qga hq,if_neg,bo];intro he;have he:c=rows.getD (t / nc) 0:=he;have hlt:t / nc < rows.length:=(Nat.div_lt_iff_lt_mul (by omega)).2 ht;rw[gF,g8 hlt] at he;obtain⟨ej,hie⟩:=ge.1 hi0;have he:c=rows[t / nc]:=he;have WT:t / nc=i0:=by
     rcases Nat.lt_trichotomy (t / nc) i0 with hl | hl | hl
     ·have:=gO.1 jA _ _ hlt ej hl;omega
     ·exact hl
     ·have:=gO.1 jA _ _ ej hlt hl;omega
    have:=Nat.div_add_mod t nc;rw[WT,h2,Nat.mul_comm] at this;exact h this.symm
   ·rw[if_neg h2,if_neg h2]
theorem qt3 {rows:List Int} (jA:rows.Pairwise (· < ·)) {c i:Int} {i0:Nat} (hi0:rows[i0]? = some c) (h:Go.Proofs.YtlhicnfeajejhaaGreatDoor.q2s rows (fun y=>y == c) i):i=i0:=by
 rcases h with ⟨_,h⟩ | ⟨k,t,rfl,hk,ht,_⟩
 ·have:=h c (gh hi0);simp at this
 ·have ht:t=c:=by simpa using ht
  subst ht;obtain⟨a1,a2⟩:=ge.1 hk;obtain⟨b1,b2⟩:=ge.1 hi0;rcases Nat.lt_trichotomy k i0 with hl | hl | hl
  ·have:=gO.1 jA _ _ a1 b1 hl;omega
  ·rw[hl]
  ·have:=gO.1 jA _ _ b1 a1 hl;omega
end Go.Cx
namespace Go.Proofs.YtlhicnfeajejhaaGreatDoor
open Go.Cx Go.RowKit
attribute [local go_sem ↓] Go.wp_at_zero Go.wp_at_succ
theorem qri {K:List Cl} (G:Cx.Good K) (hi lo:Int->Int) (d:Int):(q27 K hi lo d).length<=K.length:=by
 unfold q27;refine gl (gR _ _) ?_;rw[G.ids,gn];exact gR _ _
theorem _root_.Go.Cx.Gs.setCell {S:Nat->Prop} {w w':World} (h:Gs S w w') {p:Addr} (hp:S p.block) (v:Value):Gs S w (w'.setCell p v) :=
 h.trans ⟨rfl,rfl,rfl,by simp[World.setCell],fun k hk hn=>Below.heap_setCell _ _ _ _ (fun e=>hn (e ▸ hp))⟩
theorem EW.gs {S:Nat->Prop} {w w':World} {E N:Nat} {f:Nat->Int} (h:EW w E N f) (g:Gs S w w') (hs:¬ S E) (hl:E < w.heap.size):EW w' E N f:=fun i hi=>by
 obtain⟨h1,h2,h3,h4⟩:=h i hi;exact⟨g.cell hs h1,g.cell hs h2,g.frozen hl hs h3,g.frozen hl hs h4⟩
theorem qrj (w:World) (p:Nat):(Instr.fieldAt 71 (.pointer (some ⟨p,0,none⟩)) 0).run Tryz.prog w = .ok (.pointer (some ⟨p,0,none⟩)) w:=by simp[go_sem]
theorem qr2 (w:World) (p:Nat):(Instr.fieldAt 71 (.pointer (some ⟨p,0,none⟩)) 1).run Tryz.prog w = .ok (.pointer (some ⟨p,1,none⟩)) w:=by simp[go_sem]
theorem qt4 (w:World) (x y:Int) (h:IntKind.i64.wrap (x*y)=x*y):(Go.binOp .mul 3 (.int .i64 x) (.int .i64 y)).run Tryz.prog w = .ok (.int .i64 (x*y)) w:=by simp[go_sem,h]
theorem qt5 (w:World) (x y:Int) (h:IntKind.i64.wrap (x+y)=x+y):(Go.binOp .add 3 (.int .i64 x) (.int .i64 y)).run Tryz.prog w = .ok (.int .i64 (x+y)) w:=by simp[go_sem,h]
theorem qqx {w:World} {b:Nat} {x:Int} (h0:w.cell? ⟨b,1,none⟩=some (.bool (decide (x < 0)))) (h1:w.cell? ⟨b,2,none⟩=some (.string (mg x))):(Instr.loadAt 38 (.pointer (some ⟨b,1,none⟩))).run Tryz.prog w = .ok (wv x) w:=by
 show _=Result.ok (Value.agg #[.bool (decide (x < 0)),.string (mg x)]) w;simp[go_sem,h0,h1]
theorem qt6 {w:World} {b:Nat} {u0 u1 u2:Value} (c0:w.cell? ⟨b,0,none⟩=some u0) (c1:w.cell? ⟨b,1,none⟩=some u1) (c2:w.cell? ⟨b,2,none⟩=some u2) (x y z:Value) :
  (((w.setCell ⟨b,0,none⟩ x).setCell ⟨b,1,none⟩ y).setCell ⟨b,2,none⟩ z).cell? ⟨b,0,none⟩=some x/\(((w.setCell ⟨b,0,none⟩ x).setCell ⟨b,1,none⟩ y).setCell ⟨b,2,none⟩ z).cell? ⟨b,1,none⟩=some y/\(((w.setCell ⟨b,0,none⟩ x).setCell ⟨b,1,none⟩ y).setCell ⟨b,2,none⟩ z).cell? ⟨b,2,none⟩=some z :=
 ⟨xi (xi (World.cell?_setCell_same' _ _ _ (by rw[c0];rfl)) (by simp)) (by simp),xi (World.cell?_setCell_same' _ _ _ (by rw[xi c1 (by simp)];rfl)) (by simp),World.cell?_setCell_same' _ _ _ (by rw[xi (xi c2 (by simp)) (by simp)];rfl)⟩
theorem qrd:∀ args w,(callFunc 118 args).run Tryz.prog w = .ok (.enter 118 args) w:=k8 Tryz.func118 (by kernel_rfl) (by kernel_rfl)
theorem qsa (v pvv:Value) (l:List Ce) (ps:List (Int×Int)) (w:World) (h:SlC w v l) (hl:l.length<=200) (hok:COk l) (hp:Sl w 2 pvv (pv ps)) (hpI:∀ p∈ps,I64 p.1/\I64 p.2) (dim:Int) (hd : -1000<=dim/\dim<=1000) :
  Calls Tryz.prog 54 #[.agg #[v],pvv,.int .i64 dim] w fun e w'=>Below w.heap.size w w' ∧
   ((opE (l.map Ce.cl) ps≠0/\e = .returned (.agg #[.int .i64 0,.int .i64 0,.slice none 0 0])) ∨
    (opE (l.map Ce.cl) ps=0/\∃ E nr nc:Nat,nr=(yt (l.map Ce.cl) ps (dim - 1)).length/\nc=(yt (l.map Ce.cl) ps dim).length/\e = .returned (.agg #[.int .i64 nr,.int .i64 nc,.slice (some ⟨E,0,none⟩) (nr*nc) (nr*nc)])/\w.heap.size<=E/\E < w'.heap.size ∧
     EW w' E (nr*nc) (fun t=>bdE (canon (l.map Ce.cl)) (mhi (l.map Ce.cl) ps) (mlo (l.map Ce.cl) ps) dim (t / nc) (t % nc)))):=by
 obtain⟨a,len,cap,rfl⟩:=qg h.1;obtain⟨a1,eM,jJ,rfl⟩:=qg hp;obtain⟨W,hW⟩ : ∃ W,W=(w.alloc (.cells #[.slice a len cap] 26)).alloc (.cells #[.int .i64 0,.int .i64 0,.slice none 0 0] 44):=⟨_,rfl⟩
 have hB:Below w.heap.size w W:=by rw[hW];exact((Below.refl _ w).alloc (nlr _) _).alloc (by simp) _
 have hc:=q6s (.slice a len cap) (.slice a1 eM jJ) l ps _ (h.q8 hB) (by omega) hok (hp.q8 hB) hpI;have HC:=lhd hc;have HB:=lhd hB;obtain⟨K0,hK0⟩ : ∃ K0,K0=l.map Ce.cl:=⟨_,rfl⟩
 have HL:=lhd (show K0.length<=200 by rw[hK0,gn];exact hl);rw[<-hK0] at HC ⊢;clear hc hB h hl hok hp hpI hK0;go_enter Tryz.func54,Tryz.ntmps54;go_wp2_with fail;rw[<-hW];refine HC.out.mono ?_;rintro e w1 ⟨ak,hr⟩;have aV:=lhd (HB.out.trans (ak.mono HB.out.size));have m0:W.cell? ⟨w.heap.size+1,0,none⟩=some (.int .i64 0):=by
  rw[hW];simp
 have m1:W.cell? ⟨w.heap.size+1,1,none⟩=some (.int .i64 0):=by
  rw[hW];simp
 have m2:W.cell? ⟨w.heap.size+1,2,none⟩=some (.slice none 0 0):=by
  rw[hW];simp
 have mz:∀ j,W.frozen? ⟨w.heap.size+1,j,none⟩=false:=fun j=>by
  rw[hW];simp
 have Cg:w.heap.size+1 < W.heap.size:=by rw[hW];simp
 obtain⟨ob,Ch⟩ : ∃ ob,ob=w.heap.size+1:=⟨_,rfl⟩
 rw[<-Ch] at m0 m1 m2 mz Cg ⊢;have kP:w.heap.size<=ob:=by omega
 have q0:=Cx.q8 ak m0;have q1:=Cx.q8 ak m1;have q2:=Cx.q8 ak m2;have z0:=qv ak Cg (mz 0);have z1:=qv ak Cg (mz 1);have z2:=qv ak Cg (mz 2);have HM:=lhd (aiq q0 (aiq q1 (aiq q2 (aiq z0 (aiq z1 (aiq z2 (aiq kP (bf Cg ak.size))))))));clear m0 m1 m2 mz Cg Ch ak hW kP;rcases hr with ⟨E,h1,rfl,h2⟩ | ⟨h2,h3,T,rfl,h4⟩
 ·have hb:(E != 0)=true:=by simpa using h1
  have H:=lhd (aiq h1 h2);clear h1 h2;go_wp2_with fail;obtain⟨q0,q1,q2,z0,z1,z2,kP,s7⟩:=HM.out;obtain⟨f0,f1,f2⟩:=qt6 q0 q1 q2 (.int .i64 0) (.int .i64 0) (.slice none 0 0);refine bodyPost_ret (v:=.agg #[.int .i64 0,.int .i64 0,.slice none 0 0]) (by simp[results,Tryz.results54,go_sem,f0,f1,f2]) rfl ⟨((aV.out.setCell kP _).setCell kP _).setCell kP _,.inl ⟨by rw[H.out.2];exact H.out.1,rfl⟩⟩
 obtain⟨BS,BH,BL,QV,a2,n,c,mm,hF,oQ,Mq,I4,I5⟩:=h4.fm h3;have kG:(canon K0).length<=200:=by rw[q0z];exact HL.out
 have kQ:yt K0 ps (dim - 1)=q27 (canon K0) (mhi K0 ps) (mlo K0 ps) (dim - 1):=by unfold yt;rw[if_pos h2]
 have kR:yt K0 ps dim=q27 (canon K0) (mhi K0 ps) (mlo K0 ps) dim:=by unfold yt;rw[if_pos h2]
 obtain⟨K,hK⟩ : ∃ K,K=canon K0:=⟨_,rfl⟩
 obtain⟨hi,iP⟩ : ∃ hi,hi=mhi K0 ps:=⟨_,rfl⟩
 obtain⟨lo,nZ⟩ : ∃ lo,lo=mlo K0 ps:=⟨_,rfl⟩
 rw[<-hK,<-iP,<-nZ] at hF kQ kR;have sV:=lhd (aiq hK (aiq iP nZ));rw[<-hK] at kG;obtain⟨rows,lW⟩ : ∃ rows,rows=q27 K hi lo (dim - 1):=⟨_,rfl⟩
 obtain⟨pG,o7⟩ : ∃ pG,pG=q27 K hi lo dim:=⟨_,rfl⟩
 rw[<-lW] at kQ;rw[<-o7] at kR;obtain⟨nr,Mr⟩ : ∃ nr,nr=rows.length:=⟨_,rfl⟩
 obtain⟨nc,Fg⟩ : ∃ nc,nc=pG.length:=⟨_,rfl⟩
 have Ms:nr<=200:=by rw[Mr,lW];exact gl (qri hF.good _ _ _) kG
 have uo:nc<=200:=by rw[Fg,o7];exact gl (qri hF.good _ _ _) kG
 have pH:rows.Pairwise (· < ·):=by rw[lW];exact qp5 hF.good _
 have H:=lhd (aiq h2 (aiq hF (aiq lW (aiq o7 (aiq Mr (aiq Fg pH))))));have HX:=lhd (aiq kQ (aiq kR kG));have g1:((nr:Int) > 200)=False:=by simp;omega
 have g2:((nc:Int) > 200)=False:=by simp;omega
 clear h2 h3 h4 hF oQ Mq I4 I5 q0 q1 q2 z0 z1 z2 hK iP nZ lW o7 Mr Fg pH kQ kR kG;go_wp2_with fail;refine(qof H.out.2.1 (dim - 1)).mono ?_;rintro e w2 ⟨r2,rfl,uK,ao⟩;rw[<-H.out.2.2.1,<-H.out.2.2.2.2.1] at uK;obtain⟨v2,nQ,c2,rfl⟩:=qg (Sl.qc uK);have e6:=H.out.2.1.q8 ao;have HR:=lhd (aiq uK (aiq ao e6));clear uK ao e6;go_wp2_with fail;refine(qof HR.out.2.2 dim).mono ?_;rintro e w3 ⟨r3,rfl,s8,aO⟩;rw[<-H.out.2.2.2.1,<-H.out.2.2.2.2.2.1] at s8;obtain⟨v3,de,c3,rfl⟩:=qg (Sl.qc s8);have e2:nQ=nr:=by
  obtain⟨_,_,_,he,_,_,h3,_⟩:=(Sl.qc HR.out.1);cases he;rw[xl,<-H.out.2.2.2.2.1] at h3;omega
 have e3:de=nc:=by
  obtain⟨_,_,_,he,_,_,h3,_⟩:=(Sl.qc s8);cases he;rw[xl,<-H.out.2.2.2.2.2.1] at h3;omega
 subst e2 e3;have oK:=Sl.qc s8;have Ra:=HR.out.2.2.q8 aO;have HS:=lhd (aiq ((Sl.qc HR.out.1).q8 aO) (aiq oK (aiq aO Ra)));have rW:Below w.heap.size w w3:=aV.out.trans ((HR.out.2.1.trans (aO.mono HR.out.2.1.size)).mono aV.out.size);have eP:=lhd rW;clear s8 aO oK Ra rW;go_wp2_with fail;refine(qqn nQ de w3 Ms uo).mono ?_;rintro e w4 ⟨E,rfl,Rb,I6,Ci,aT⟩;obtain⟨N,hN⟩ : ∃ N,N=nQ*de:=⟨_,rfl⟩
 rw[<-hN] at Ci ⊢;have HE:=lhd (aiq Rb (aiq I6 (aiq Ci (aiq aT hN))));clear Rb I6 Ci aT hN;go_wp2_with fail;obtain⟨V,hV⟩ : ∃ V,V=w4.alloc (.cells #[.int .i64 nQ,.int .i64 de,.slice (some ⟨E,0,none⟩) N N] 44):=⟨_,rfl⟩
 rw[<-hV];obtain⟨pb,kK⟩ : ∃ pb,pb=w4.heap.size:=⟨_,rfl⟩
 have u0:V.cell? ⟨pb,0,none⟩=some (.int .i64 nQ):=by rw[hV,kK];exact qd w4 _ _ (0,0) 0
 have u1:V.cell? ⟨pb,1,none⟩=some (.int .i64 de):=by rw[hV,kK];exact qd w4 _ _ (0,0) 1
 have u2:V.cell? ⟨pb,2,none⟩=some (.slice (some ⟨E,0,none⟩) N N):=by rw[hV,kK];exact qd w4 _ _ (0,0) 2
 have uL:Below w4.heap.size w4 V:=by rw[hV];exact(Below.refl _ w4).alloc (nlr _) _
 rw[<-kK];have I7:E≠pb:=by have:=HE.out.2.1;omega
 have Rc:=HE.out.2.2.1.q8 uL HE.out.2.1;have s9:Below w3.heap.size w3 V:=HE.out.2.2.2.1.trans (uL.mono HE.out.2.2.2.1.size);have HV:=lhd (aiq u0 (aiq u1 (aiq u2 (aiq I7 (aiq Rc (aiq s9 (bf HE.out.2.1 uL.size)))))));clear u0 u1 u2 uL I7 Rc s9 hV kK;have far:∀ U,Gs (fun b=>b=E) V U->Below w3.heap.size w3 U/\U.cell? ⟨pb,0,none⟩=some (.int .i64 nQ)/\U.cell? ⟨pb,1,none⟩=some (.int .i64 de)/\U.cell? ⟨pb,2,none⟩=some (.slice (some ⟨E,0,none⟩) N N):=fun U hU=>by
  obtain⟨u0,u1,u2,I7,_,s9,_⟩:=HV.out;have hb:¬ (pb=E):=fun e=>I7 e.symm
  exact⟨s9.trans (hU.below s9.size fun b h=>by rw[h];exact HE.out.1),hU.cell hb u0,hU.cell hb u1,hU.cell hb u2⟩
 have Mt:=lhd far;clear far;go_wp2_with fail;go_loopw [49] (fun i wr=>∃ k:Nat,i = .int .i64 k/\k<=de/\Hid (EW wr E N (fun t=>if t % de < k then bdE K hi lo dim (t / de) (t % de) else 0)/\Gs (fun b=>b=E) V wr)) (fun i _=>de - (vI i).toNat)
 case atStart=>exact⟨0,rfl,gp _,HV.out.2.2.2.2.1.congr fun t _=>by rw[if_neg (by omega)],Gs.refl _ _⟩
 case round =>
  obtain⟨k,rfl,hk,cE⟩:=hrel;by_cases hlt:k < de
  ·obtain⟨wo,dB⟩ : ∃ wo,wo=wr:=⟨_,rfl⟩
   subst dB;obtain⟨_,_,_,uF,y1,y2,y3,y4,y5⟩:=HS.out.2.1;cases uF
   obtain⟨ad,rfl⟩ : ∃ ad,v3=some ad:=by
    cases v3 with
    | none=>have:=y4 rfl;omega
    | some ad=>exact⟨ad,rfl⟩
   have l8:pG.length=de:=H.out.2.2.2.2.2.1.symm;obtain⟨id,hid⟩ : ∃ id,pG[k]? = some id:=⟨_,g8 (by rw[l8];exact hlt)⟩
   obtain⟨uM,WU,WV,WW⟩:=Mt.out wo cE.out.2;have d0:wo.cell? (ad.add k)=some (.int .i64 id):=Cx.q8 uM (y5 ad rfl _ _ (by simp[ints,hid]));have Mu:=HS.out.2.2.2.q8 uM;have t0:=Mu.fld.t0;have sy:∃ y∈K,y.id=id/\y.dim=dim - 1+1:=by
    have:=gh hid;rw[H.out.2.2.2.1] at this;obtain⟨⟨y,hy,h1,h2⟩,_⟩:=(qiu H.out.2.1.good).1 this;exact⟨y,hy,h1,by omega⟩
   have Fh:I64 id:=by
    obtain⟨y,hy,rfl,_⟩:=sy;exact q4s H.out.2.1.cl H.out.2.1.ok (gI hy)
   have HK:=lhd (aiq hid (aiq uM (aiq Mu (aiq sy Fh))));clear y1 y2 y3 y4 y5 l8 hid uM Mu sy Fh WU WV WW;go_wp2_with fail;refine(qgv 1 _ (by decide) (by decide)).mono ?_;rintro e w5 ⟨rfl,cT⟩;have t5:=Cx.q8 cT t0;have eQ:Sl (w5.alloc (.cells #[.int .i64 id,.bool false,.string (mg 1)] 71)) 3 (.slice (some ⟨w5.heap.size,0,none⟩) 1 1) (tv (ctm [(id,1)])):=q13 w5 71 3 [.int .i64 id,.bool (decide ((1:Int) < 0)),.string (mg 1)] 1 rfl (by unfold maxLen;omega);have EM:=lhd cT;clear t0 d0 cT;unfold wv;go_upto_region 12 with fail;obtain⟨w6,qD⟩ : ∃ w6,w6=w5.alloc (.cells #[.int .i64 id,.bool false,.string (mg 1)] 71):=⟨_,rfl⟩
   have t6:w6.cell? ⟨T,0,none⟩=some (.slice a2 n c):=by rw[qD];exact qk t5 _
   have B6:Below wo.heap.size wo w6:=by rw[qD];exact EM.out.alloc EM.out.size _
   rw[<-qD] at eQ ⊢;have I8:=HK.out.2.2.1.q8 B6;have dZ:TOk 1 (ctm [(id,1)]):=LOk.tok fun p hp=>by
    have:p=(id,1):=by simpa using hp
    rw[this];exact⟨HK.out.2.2.2.2,q31 1 1 (by decide)⟩
   have lQ:(zk mm).length<=256000:=by rw[q2q,I8.cl];exact q6v I8.good
   have jB:=lhd (aiq eQ (aiq B6 (aiq I8 (aiq dZ lQ))));clear eQ B6 I8 dZ lQ qD t5;go_wp2_with fail;refine(q5y _ mm _ (ctm [(id,1)]) 1 w6 jB.out.2.2.1.fld.row jB.out.2.2.1.ok jB.out.1 jB.out.2.2.2.1 (by rw[qz];have:=jB.out.2.2.2.2;show _+1+_<=_;omega)).mono ?_;rintro e w7 ⟨r7,rfl,⟨Lb,Mv,Re,WX,AK⟩,iY⟩;obtain⟨v7,n7,c7,rfl⟩:=qg (Sl.qc AK);have hG:=jB.out.2.2.1.good;have ew:co Lb=bdD K id 1:=funext fun d=>by
    rw[Re,zv,vg,q2q,jB.out.2.2.1.cl];rfl
   have Mw:In0 K (co Lb):=by rw[ew];exact qcu hG id 1
   have Rf:∀ d,nb (co Lb d)<=1:=fun d=>by rw[ew];exact qod hG id d
   have Fi:TOk 1 (ctm Lb):=q9i jB.out.2.2.1.cl jB.out.2.2.1.ok Mv Mw Rf;have l7:=q6u Mv Mw;have Fj:=HX.out.2.2;have Rg:=jB.out.2.2.1.q8 iY;have dM:=lhd (aiq AK (aiq iY (aiq ew (aiq Fi (aiq Rg (gl l7 Fj))))));clear AK iY ew Fi Rg l7 Fj Mv Re WX Mw Rf hG t6;go_wp2_with fail;refine(qoe dM.out.2.2.2.2.1 _ (ctm Lb) 1 (Sl.qc dM.out.1) dM.out.2.2.2.1 (by rw[qz];have:=dM.out.2.2.2.2.2;omega)).mono ?_;rintro e w8 ⟨r8,L,rfl,xJ,tC,iK,Mx,Rh,mV⟩;rw[zv,dM.out.2.2.1] at tC;obtain⟨v8,n8,c8,rfl⟩:=qg (Sl.qc iK);have e8:n8=L.length:=by
    obtain⟨_,_,_,he,_,_,h3,_⟩:=(Sl.qc iK);cases he;rw[z6,qz] at h3;omega
   have My:Below wo.heap.size wo w8:=jB.out.2.1.trans ((dM.out.2.1.trans (mV.mono dM.out.2.1.size)).mono jB.out.2.1.size);have Mz:E < wo.heap.size:=bf HV.out.2.2.2.2.2.2 cE.out.2.size;have Fl:=cE.out.1.q8 My Mz;have Ri:Gs (fun b=>b=E) V w8:=cE.out.2.trans (Gs.xh My);have Rj:=Sl.qc iK;have Zz:n8<=4000:=by rw[e8];exact gl (q6u xJ Mx) H.out.2.1.good.len
   have sD:∀ g,(Value.slice v8 n8 c8).ownBlock=some g->wo.heap.size<=g:=fun g hg=>gl (gl jB.out.2.1.size dM.out.2.1.size) (iK.lt g hg).1
   have pI:=lhd (aiq xJ (aiq tC (aiq Rj (aiq Rh (aiq Fl (aiq Ri (aiq Mz (aiq e8 (aiq sD Mx)))))))));clear xJ tC iK Mx Rh mV My Fl Ri Rj Mz e8 sD;go_wp2_with fail;go_loopw [67] (fun i wr=>∃ q:Nat,i = .int .i64 q/\q<=n8/\Hid (EW wr E N (fun t=>if t % de < k then bdE K hi lo dim (t / de) (t % de) else if t % de=k then co (L.take q) (rows.getD (t / de) 0) else 0)/\Gs (fun b=>b=E) w8 wr)) (fun i _=>n8 - (vI i).toNat)
   case atStart=>exact⟨0,rfl,gp _,pI.out.2.2.2.2.1.congr fun t _=>by
    by_cases h1:t % de < k
    ·rw[if_pos h1,if_pos h1]
    ·rw[if_neg h1,if_neg h1,List.take_zero];split <;> rfl,Gs.refl _ _⟩
   case round =>
    obtain⟨q,rfl,hq,fI⟩:=hrel;by_cases Mo:q < n8
    ·obtain⟨_,_,_,uF,y1,y2,y3,y4,y5⟩:=pI.out.2.2.1;cases uF
     obtain⟨o8,rfl⟩ : ∃ ad,v8=some ad:=by
      cases v8 with
      | none=>have:=y4 rfl;omega
      | some ad=>exact⟨ad,rfl⟩
     obtain⟨⟨cc,x⟩,ly⟩ : ∃ p,L[q]? = some p:=⟨_,g8 (by rw[<-pI.out.2.2.2.2.2.2.2.1];exact Mo)⟩
     obtain⟨e0,e1,e2⟩:=jd (ctm L) q ⟨cc,decide (x < 0),mg x⟩ (by unfold ctm;rw[List.getElem?_map,ly];rfl);have Fo:¬ (o8.block=E):=fun e=>by
      have h1:=pI.out.2.2.2.2.2.2.1;have h2:=pI.out.2.2.2.2.2.2.2.2.1 o8.block (by cases o8;rfl);omega
     have hblk:∀ j,(o8.add j).block=o8.block:=fun j=>by unfold Addr.add;split <;> rfl
     have o9:¬ ((o8.add (q*3)).block=E):=by rw[hblk];exact Fo
     have d0:wr.cell? (o8.add (q*3))=some (.int .i64 cc):=fI.out.2.cell o9 (y5 o8 rfl _ _ e0);have d1:wr.cell? ⟨(o8.add (q*3)).block,(o8.add (q*3)).off+1,none⟩=some (.bool (decide (x < 0))):=fI.out.2.cell o9 (by rw[qi _ _ _ (by omega)];exact y5 o8 rfl _ _ e1);have d2:wr.cell? ⟨(o8.add (q*3)).block,(o8.add (q*3)).off+2,none⟩=some (.string (mg x)):=fI.out.2.cell o9 (by rw[qi _ _ _ (by omega)];exact y5 o8 rfl _ _ e2);have HCX:=lhd ly;clear y1 y2 y3 y4 y5 e0 e1 e2 Fo hblk o9 ly;have Cj:Gs (fun b=>b=E) V wr:=pI.out.2.2.2.2.2.1.trans fI.out.2;obtain⟨pK,_,_,Rk⟩:=Mt.out wr Cj;have tD:E < wr.heap.size:=bf HV.out.2.2.2.2.2.2 Cj.size;obtain⟨wm,nu⟩ : ∃ wm,wm=wr.alloc (.cells #[.int .i64 cc,.bool (decide (x < 0)),.string (mg x)] 71):=⟨_,rfl⟩
     obtain⟨mp,ep⟩ : ∃ mp,mp=wr.heap.size:=⟨_,rfl⟩
     have m0:wm.cell? ⟨mp,0,none⟩=some (.int .i64 cc):=by rw[nu,ep];exact qd wr _ _ (0,0) 0
     have m1:wm.cell? ⟨mp,1,none⟩=some (.bool (decide (x < 0))):=by rw[nu,ep];exact qd wr _ _ (0,0) 1
     have m2:wm.cell? ⟨mp,2,none⟩=some (.string (mg x)):=by rw[nu,ep];exact qd wr _ _ (0,0) 2
     have tE:Below wr.heap.size wr wm:=by rw[nu];exact(Below.refl _ wr).alloc (nlr _) _
     have o2:=Cx.q8 tE Rk;have iL:=(HS.out.1.q8 pK).q8 tE;have Fp:cc∈rows:=by
      rw[H.out.2.2.1];refine qrc H.out.2.1.good H.out.2.1.mtc H.out.2.1.ac HK.out.2.2.2.1 ?_;rw[<-pI.out.2.1];have hm:=gh HCX.out;have:=zl pI.out.1.1 hm;have h2:=pI.out.1.2 _ hm;intro e;exact h2 (this.symm.trans e)
     obtain⟨i0,AL,Fq⟩:=List.getElem_of_mem Fp;have hi0:rows[i0]? = some cc:=by rw[g8 AL,Fq]
     have Fs:i0 < nQ:=by rw[H.out.2.2.2.2.1];exact AL
     obtain⟨ix,uq⟩ : ∃ ix:Nat,ix=i0*de+k:=⟨_,rfl⟩
     have pL:ix < N:=by
      rw[uq,HE.out.2.2.2.2];have h1:(i0+1)*de<=nQ*de:=bE _ Fs;rw[Nat.add_mul] at h1;omega
     have hmul:(i0:Int)*(de:Int)<=40000/\0<=(i0:Int)*(de:Int):=by
      have h1:i0*de<=200*200:=Nat.mul_le_mul (by omega) uo;rw[<-Int.natCast_mul];omega
     have fY:(i0:Int)*(de:Int)+(k:Int)=(ix:Int):=by rw[uq,Int.natCast_add,Int.natCast_mul]
     have Ck:=fI.out.1.q8 tE tD;have hE:∀ w',Below wm.heap.size wm w'->Bx' w' E ix (if ix % de < k then bdE K hi lo dim (ix / de) (ix % de) else if ix % de=k then co (L.take q) (rows.getD (ix / de) 0) else 0):=fun w' h=>Ck.q8 h (bf tD tE.size) ix pL
     obtain⟨od,zK⟩ : ∃ od,od=(if ix % de < k then bdE K hi lo dim (ix / de) (ix % de) else if ix % de=k then co (L.take q) (rows.getD (ix / de) 0) else 0):=⟨_,rfl⟩
     rw[<-zK] at hE;have pH:=H.out.2.2.2.2.2.2;have HO:=lhd (aiq hi0 (aiq uq (aiq pL (aiq tE (aiq Ck (aiq Cj (aiq hE (aiq hmul (aiq fY (aiq iL tD))))))))));clear Fq AL Fp zK pK Rk Cj tE Ck;go_upto_region 15 with fail;rw[<-ep,<-nu];clear ep nu uq hi0 pL hE hmul fY iL tD pH Fs d0 d1 d2;refine qrr fun KO Fu=>?_
     go_cut [71] from 72 to 84 (fun _ wx=>∃ w',Hid (Below wm.heap.size wm w')/\wx=(w'.setCell ⟨E,ix*2,none⟩ (.bool (decide (x < 0)))).setCell ⟨E,ix*2+1,none⟩ (.string (mg x)))
     case first =>
      rename_i J K2 hJ iZ;obtain⟨hi0,uq,pL,tE,Ck,Cj,hE,hmul,fY,iL,tD⟩:=HO.out;have pH:=H.out.2.2.2.2.2.2;refine qs1 rfl (fun i' v=>∀ x',([some (.pointer (some ⟨pb,2,none⟩)),some (.slice (some ⟨E,0,none⟩) N N),some (.slice v2 nQ c2),some (.pointer (some ⟨mp,0,none⟩)),some (.int .i64 cc),some (.int .i64 i0),some (.slice (some ad) de c3),some (.int .i64 de),some (.int .i64 ((i0:Int)*de)),some (.int .i64 k),some (.int .i64 ix),some (.pointer (some ⟨mp,1,none⟩)),some (wv x),some (.pointer (some ⟨E,ix*2,none⟩))] : List (Option Value)).getD i' none=some x'->v=x') 14 15 88 rfl (by kernel_rfl) (by kernel_rfl) (by decide) (by kernel_rfl) (by kernel_rfl) (fun a w''=>K2 a w'') ?step ?store (fun a w'' h=>h)
      case step =>
       intro i' o ho aq a w' hw hd ae az;have M0:=ae 11 (qu (by kernel_rfl));have WY:=ae 9 (qu (by kernel_rfl));have Fv:=ae 16 (qu (by kernel_rfl));have M3:=ae 10 (qu (by kernel_rfl));have M4:=ae 12 (qu (by kernel_rfl))
       match i',ho,hd with
       | 0,ho,hd =>
        obtain rfl:=osi ho;exact⟨rfl,gy _,qqw _ _ _ rfl _ M0 _ (qdv _ _) ⟨_,rfl,fun _ h=>osi h,Below.refl _ _⟩⟩
       | 1,ho,hd =>
        obtain rfl:=osi ho;exact⟨rfl,gy _,q8o _ _ rfl _ (hd 0 _ _ rfl rfl (by kernel_rfl) _ rfl) _ (qt0 _ _ _ _ _ (Cx.q8 hw o2)) ⟨_,rfl,fun _ h=>osi h,Below.refl _ _⟩⟩
       | 2,ho,hd =>
        obtain rfl:=osi ho;exact⟨rfl,gy _,q1b _ (.inl rfl) ⟨_,rfl,fun _ h=>WY.trans (osi h),Below.refl _ _⟩⟩
       | 3,ho,hd =>
        obtain rfl:=osi ho;exact⟨rfl,gy _,qqw _ _ _ rfl _ Fv _ (qrj _ _) ⟨_,rfl,fun _ h=>osi h,Below.refl _ _⟩⟩
       | 4,ho,hd =>
        obtain rfl:=osi ho;exact⟨rfl,gy _,q8o _ _ rfl _ (hd 3 _ _ rfl rfl (by kernel_rfl) _ rfl) _ (qe0 _ _ _ (Cx.q8 hw m0)) ⟨_,rfl,fun _ h=>osi h,Below.refl _ _⟩⟩
       | 5,ho,hd =>
        obtain rfl:=osi ho;have f0:a.tmps.getD 73 undef = .slice v2 nQ c2:=hd 2 _ _ rfl rfl (by kernel_rfl) _ rfl;have f1:a.tmps.getD 75 undef = .int .i64 cc:=hd 4 _ _ rfl rfl (by kernel_rfl) _ rfl;exact⟨rfl,gy _,qdj _ _ _ rfl qrd #[.slice v2 nQ c2,.int .i64 cc] (by simp[Act.eval,f0,f1]) ((qps _ rows cc _ (iL.q8 hw)).mono fun e w6 ⟨i,he,hf,hb⟩=>⟨_,he,_,rfl,fun _ h=>(congrArg (Value.int .i64) (qt3 pH hi0 hf)).trans (osi h),hb⟩)⟩
       | 6,ho,hd =>
        obtain rfl:=osi ho;exact⟨rfl,gy _,q1b _ (.inl rfl) ⟨_,rfl,fun _ h=>M3.trans (osi h),Below.refl _ _⟩⟩
       | 7,ho,hd =>
        obtain rfl:=osi ho;exact⟨rfl,gy _,qi5 _ rfl Tryz.underlying22 _ de c3 (hd 6 _ _ rfl rfl (by kernel_rfl) _ rfl) ⟨_,rfl,fun _ h=>osi h,Below.refl _ _⟩⟩
       | 8,ho,hd =>
        obtain rfl:=osi ho;exact⟨rfl,gy _,qnf _ _ _ _ _ rfl _ _ (hd 5 _ _ rfl rfl (by kernel_rfl) _ rfl) (hd 7 _ _ rfl rfl (by kernel_rfl) _ rfl) _ rfl (qt4 _ _ _ (IntWalk.i64_in _ (by omega))) ⟨_,rfl,fun _ h=>osi h,Below.refl _ _⟩⟩
       | 9,ho,hd =>
        obtain rfl:=osi ho;exact⟨rfl,gy _,q1b _ (.inl rfl) ⟨_,rfl,fun _ h=>M4.trans (osi h),Below.refl _ _⟩⟩
       | 10,ho,hd =>
        obtain rfl:=osi ho;exact⟨rfl,gy _,qnf _ _ _ _ _ rfl _ _ (hd 8 _ _ rfl rfl (by kernel_rfl) _ rfl) (hd 9 _ _ rfl rfl (by kernel_rfl) _ rfl) _ rfl (qt5 _ _ _ (IntWalk.i64_in _ (by omega))) ⟨_,rfl,fun _ h=>(congrArg (Value.int .i64) fY).trans (osi h),Below.refl _ _⟩⟩
       | 11,ho,hd =>
        obtain rfl:=osi ho;exact⟨rfl,gy _,qqw _ _ _ rfl _ Fv _ (qr2 _ _) ⟨_,rfl,fun _ h=>osi h,Below.refl _ _⟩⟩
       | 12,ho,hd =>
        obtain rfl:=osi ho;exact⟨rfl,gy _,q8o _ _ rfl _ (hd 11 _ _ rfl rfl (by kernel_rfl) _ rfl) _ (qqx (Cx.q8 hw m1) (Cx.q8 hw m2)) ⟨_,rfl,fun _ h=>osi h,Below.refl _ _⟩⟩
       | 13,ho,hd =>
        obtain rfl:=osi ho;exact⟨rfl,gy _,qc9 _ _ _ rfl _ _ (hd 1 _ _ rfl rfl (by kernel_rfl) _ rfl) (hd 10 _ _ rfl rfl (by kernel_rfl) _ rfl) _ (qt1 _ _ _ _ _ pL) ⟨_,rfl,fun _ h=>osi h,Below.refl _ _⟩⟩
       | 14,ho,hd=>exact absurd rfl aq
       | i'+15,ho,hd =>
        have:i'+15 < 15:=(gv.1 ho).1;omega
      case store =>
       intro o ho a w' az jR hw hf ae;obtain rfl:=osi ho;have f0:a.tmps.getD 84 undef = .pointer (some ⟨E,ix*2,none⟩):=hf 13 _ _ rfl rfl _ rfl;have f1:a.tmps.getD 83 undef=wv x:=hf 12 _ _ rfl rfl _ rfl;refine⟨rfl,qs2 _ _ _ rfl _ _ f0 f1 (qjs _ _ _ _ _ _ (hE _ hw).1 (hE _ hw).2.1 (hE _ hw).2.2.1 (hE _ hw).2.2.2) ?_⟩;refine iZ _ _ (Met.intro (hJ _ _ ⟨a.tmps.getD 71 undef,a.tmps.getD 72 undef,a.tmps.getD 73 undef,a.tmps.getD 74 undef,a.tmps.getD 75 undef,a.tmps.getD 76 undef,a.tmps.getD 77 undef,a.tmps.getD 78 undef,a.tmps.getD 79 undef,a.tmps.getD 80 undef,a.tmps.getD 81 undef,a.tmps.getD 82 undef,a.tmps.getD 83 undef,a.tmps.getD 84 undef,⟨w',lhd hw,rfl⟩,(q8z az jR ae).trans ?_⟩));kernel_rfl
     case rest =>
      obtain⟨w',Rm,rfl⟩:=hcut;refine Fu _ _ ?_;go_wp2;go_roundw
      case measure=>simp[vI];omega
      case rel =>
       obtain⟨hi0,uq,pL,tE,Ck,Cj,hE,hmul,fY,iL,tD⟩:=HO.out;have M5:=((Ck.q8 Rm.out (bf tD tE.size)).put ix x)
       refine⟨q+1,qh (by omega),by omega,(show Hid _ from M5.congr fun t ht=>?_),?_⟩
       ·rw[uq];exact qt2 H.out.2.2.2.2.2.2 pI.out.1 HCX.out hi0 hlt (bdE K hi lo dim) t (by rw[<-H.out.2.2.2.2.1,<-HE.out.2.2.2.2];exact ht)
       ·have dG:=(fI.out.2.trans (Gs.xh tE)).trans (Gs.xh Rm.out);exact(dG.setCell rfl _).setCell rfl _
    ·have WZ:q=n8:=by omega
     subst WZ;go_wp2_with fail;go_roundw
     case measure=>simp[vI];omega
     case rel =>
      refine⟨k+1,qh (by omega),by omega,(show Hid _ from fI.out.1.congr fun t ht=>?_),pI.out.2.2.2.2.2.1.trans fI.out.2⟩;by_cases h1:t % de < k
      ·rw[if_pos h1,if_pos (by omega)]
      ·by_cases h2:t % de=k
       ·rw[if_neg h1,if_pos h2,if_pos (by omega),gm (by rw[<-pI.out.2.2.2.2.2.2.2.1];exact nlr _),pI.out.2.1];unfold bdE;rw[h2,<-H.out.2.2.1,<-H.out.2.2.2.1,gF (l:=pG),HK.out.1];rfl
       ·rw[if_neg h1,if_neg h2,if_neg (by omega)]
  ·have bG:k=de:=by omega
   subst bG;obtain⟨pK,r0,r1,r2⟩:=Mt.out wr cE.out.2;obtain⟨q0,q1,q2,z0,z1,z2,kP,s7⟩:=HM.out;have mG:Below w1.heap.size w1 wr:=(HR.out.2.1.trans ((HS.out.2.2.1.trans (pK.mono HS.out.2.2.1.size)).mono HR.out.2.1.size))
   have o0:=Cx.q8 mG q0;have o1:=Cx.q8 mG q1;have o2:=Cx.q8 mG q2;have y0:=qv mG s7 z0;have y1:=qv mG s7 z1;have y2:=qv mG s7 z2;have aU:=lhd (aiq pK (aiq kP mG));clear q0 q1 q2 z0 z1 z2 kP mG pK s7;go_wp2_with fail;obtain⟨f0,f1,f2⟩:=qt6 o0 o1 o2 (.int .i64 nQ) (.int .i64 k) (.slice (some ⟨E,0,none⟩) N N);have bY:Below w.heap.size w wr:=eP.out.trans (aU.out.1.mono eP.out.size);have M6:¬ (E=ob):=fun e=>by
    have h1:=HM.out.2.2.2.2.2.2.2;have h2:=HR.out.2.1.size;have h3:=HS.out.2.2.1.size;have h4:=HE.out.1;omega
   have tD:E < wr.heap.size:=bf HV.out.2.2.2.2.2.2 cE.out.2.size;refine bodyPost_ret (v:=.agg #[.int .i64 nQ,.int .i64 k,.slice (some ⟨E,0,none⟩) N N]) (by simp[results,Tryz.results54,go_sem,f0,f1,f2]) rfl ⟨((bY.setCell aU.out.2.1 _).setCell aU.out.2.1 _).setCell aU.out.2.1 _,.inr ⟨H.out.1,E,nQ,k,?_,?_,?_,?_,?_,?_⟩⟩
   ·rw[HX.out.1];exact H.out.2.2.2.2.1
   ·rw[HX.out.2.1];exact H.out.2.2.2.2.2.1
   ·rw[HE.out.2.2.2.2]
   ·exact gl eP.out.size HE.out.1
   ·simpa [World.setCell] using tD
   ·rw[<-HE.out.2.2.2.2];have hg:Gs (fun b=>b=ob) wr (((wr.setCell ⟨ob,0,none⟩ (.int .i64 nQ)).setCell ⟨ob,1,none⟩ (.int .i64 k)).setCell ⟨ob,2,none⟩ (.slice (some ⟨E,0,none⟩) N N)):=Gs.setCell (p:=⟨ob,2,none⟩) (Gs.setCell (p:=⟨ob,1,none⟩) (Gs.setCell (p:=⟨ob,0,none⟩) (Gs.refl (fun b=>b=ob) wr) rfl _) rfl _) rfl _;refine(cE.out.1.gs hg M6 tD).congr fun t ht=>?_
    have eC:0 < k:=by
     rcases Nat.eq_zero_or_pos k with h0 | h0
     ·rw[HE.out.2.2.2.2,h0,Nat.mul_zero] at ht;omega
     ·exact h0
    rw[if_pos (Nat.mod_lt _ eC),<-sV.out.1,<-sV.out.2.1,<-sV.out.2.2]
end Go.Proofs.YtlhicnfeajejhaaGreatDoor
