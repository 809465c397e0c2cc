/- Steps towards MorseChecks. Conditions: none. -/
import Derived.Test.YtlhicnfeajejhaaGreatDoorFQj
set_option maxRecDepth 1000000
set_option maxHeartbeats 16000000
namespace Go.Proofs.YtlhicnfeajejhaaGreatDoor
open Go.RowKit Go.Cx
attribute [local go_sem ↓] Go.wp_at_zero Go.wp_at_succ
theorem qps (v:Value) (L:List Int) (x:Int) (w:World) (h:Sl w 1 v (ints L)) :
  Calls Tryz.prog 118 #[v,.int .i64 x] w fun e w'=>∃ i:Int,e = .returned (.int .i64 i)/\q2s L (fun y=>y == x) i/\Below w.heap.size w w':=by
 obtain⟨a,len,cap,rfl,h1,h2,h3,h4,h5⟩:=h;unfold maxLen at h2;rw[xl] at h3;have hl:L.length=len:=by omega
 clear h3;have Hl:=lhd hl;clear hl;have H4:=lhd h4;clear h4;have H5:=lhd h5;clear h5;go_enter Tryz.func118,Tryz.ntmps118;go_wp2;go_loopw [5,8] (fun _ i wr=>∃ k:Nat,i = .int .i64 k/\k<=len/\Hid (∀ t∈L.take k,(t == x)=false)/\Below w.heap.size w wr) (fun _ i _=>len - (vI i).toNat)
 case atStart=>exact⟨0,rfl,gp _,(show Hid _ from fun t ht=>by simp at ht),Below.refl _ _⟩
 case round =>
  obtain⟨k,rfl,hk,HN,hB⟩:=hrel;by_cases hlt:k < len
  ·obtain⟨ad,rfl⟩ : ∃ ad,a=some ad:=by
    cases a with
    | none=>have:=H4.out rfl;omega
    | some ad=>exact⟨ad,rfl⟩
   obtain⟨t,ht⟩ : ∃ t,L[k]? = some t:=⟨_,g8 (by rw[Hl.out];exact hlt)⟩
   have e0:(ints L)[k]? = some (.int .i64 t):=by simp[ints,ht]
   have d0:wr.cell? (ad.add k)=some (.int .i64 t):=q8 hB (H5.out ad rfl _ _ e0);have HT:=lhd ht;clear e0 ht;by_cases hft:t=x
   ·have dL:=lhd (show (t == x)=true by simpa using hft);subst hft;go_wp2;go_ret;exact⟨k,rfl,.inr ⟨k,t,rfl,HT.out,dL.out,HN.out⟩,hB⟩
   ·have iZ:(x == t)=false:=by simpa using fun e:x=t=>hft e.symm
    have dL:=lhd (show (t == x)=false by simpa using hft);clear hft;go_wp2;go_roundw
    case measure=>simp[vI];omega
    case rel =>
     refine⟨k+1,qh (by omega),by omega,(show Hid _ from fun u hu=>?_),hB⟩;rw[gq,HT.out] at hu;rcases gF.1 hu with hu | hu
     ·exact HN.out u hu
     ·simp at hu;rw[hu];exact dL.out
  ·have bJ:k=len:=by omega
   have fR:=lhd bJ;clear bJ;go_wp2;go_ret;refine⟨-1,rfl,.inl ⟨rfl,?_⟩,hB⟩;have hn:=HN.out;rw[ge (by rw[Hl.out,fR.out];exact nlr _)] at hn;exact hn
end Go.Proofs.YtlhicnfeajejhaaGreatDoor
namespace Go.Cx
open Go.Proofs.YtlhicnfeajejhaaGreatDoor
noncomputable def bdE (K:List Cl) (hi lo:Int->Int) (d:Int) (i j:Nat):Int:=q85 K hi lo (bdD K ((q27 K hi lo d).getD j 0) 1) ((q27 K hi lo (d - 1)).getD i 0)
theorem qga {L:List (Int×Int)} {q:Nat} {p:Int×Int} (hq:L[q]? = some p) (d:Int):co (L.take (q+1)) d=co (L.take q) d+if p.1=d then p.2 else 0:=by
 rw[gq,hq];show co (L.take q++[p]) d=_;rw[ji];show _+((if p.1=d then p.2 else 0)+0)=_;rw[bD]
theorem qgj {L:List (Int×Int)} (hL:Cn L) {q:Nat} {p:Int×Int} (hq:L[q]? = some p):co (L.take q) p.1=0:=by
 refine q0j _ _ fun r hr e=>?_
 obtain⟨i,hi,rfl⟩:=List.mem_take_iff_getElem.1 hr;obtain⟨JY,rfl⟩:=gc.1 hq;have:=gG.1 hL.1 i q (by omega) JY (by omega);omega
theorem qjx {rows:List Int} (eF:rows.Pairwise (· < ·)) {L:List (Int×Int)} (hL:Cn L) {q i0 nc k:Nat} {c x:Int} (hq:L[q]? = some (c,x)) (hi0:rows[i0]? = some c) (hk:k < nc) (M:Nat->Nat->Int) (t:Nat) (ht:t < rows.length*nc) :
  (if t=i0*nc+k then x else if t % nc < k then M (t / nc) (t % nc) else if t % nc=k then co (L.take q) (rows.getD (t / nc) 0) else 0)=if t % nc < k then M (t / nc) (t % nc) else if t % nc=k then co (L.take (q+1)) (rows.getD (t / nc) 0) else 0:=by
 by_cases h:t=i0*nc+k
 ·have h1:t % nc=k:=by rw[h,Nat.add_comm,Nat.add_mul_mod_self_right,Nat.mod_eq_of_lt hk]
  have h2:t / nc=i0:=by rw[h,Nat.add_comm,Nat.add_mul_div_right _ _ (by omega),Nat.div_eq_of_lt hk,Nat.zero_add]
  rw[if_pos h,h1,h2,if_neg (by omega),if_pos rfl,qga hq,gI,hi0];show x=co (L.take q) c+if c=c then x else 0
  rw[if_pos rfl,qgj hL hq,Int.zero_add]
 ·rw[if_neg h];by_cases h1:t % nc < k
  ·rw[if_pos h1,if_pos h1]
  ·rw[if_neg h1,if_neg h1];by_cases h2:t % nc=k
   ·rw[if_pos h2,if_pos h2,qga hq,if_neg,bD];intro he;have he:c=rows.getD (t / nc) 0:=he;have hlt:t / nc < rows.length:=(Nat.div_lt_iff_lt_mul (by omega)).2 ht;rw[gI,g8 hlt] at he;obtain⟨fO,hie⟩:=gc.1 hi0;have he:c=rows[t / nc]:=he;have Ug:t / nc=i0:=by
     rcases Nat.lt_trichotomy (t / nc) i0 with hl | hl | hl
     ·have:=gG.1 eF _ _ hlt fO hl;omega
     ·exact hl
     ·have:=gG.1 eF _ _ fO hlt hl;omega
    have:=Nat.div_add_mod t nc;rw[Ug,h2,Nat.mul_comm] at this;exact h this.symm
   ·rw[if_neg h2,if_neg h2]
theorem qk3 {rows:List Int} (eF:rows.Pairwise (· < ·)) {c i:Int} {i0:Nat} (hi0:rows[i0]? = some c) (h:Go.Proofs.YtlhicnfeajejhaaGreatDoor.q2s rows (fun y=>y == c) i):i=i0:=by
 rcases h with ⟨_,h⟩ | ⟨k,t,rfl,hk,ht,_⟩
 ·have:=h c (gd hi0);simp at this
 ·have ht:t=c:=by simpa using ht
  subst ht;obtain⟨a1,a2⟩:=gc.1 hk;obtain⟨b1,b2⟩:=gc.1 hi0;rcases Nat.lt_trichotomy k i0 with hl | hl | hl
  ·have:=gG.1 eF _ _ a1 b1 hl;omega
  ·rw[hl]
  ·have:=gG.1 eF _ _ b1 a1 hl;omega
end Go.Cx
namespace Go.Proofs.YtlhicnfeajejhaaGreatDoor
open Go.Cx Go.RowKit
attribute [local go_sem ↓] Go.wp_at_zero Go.wp_at_succ
theorem q8j {K:List Cl} (G:Cx.Good K) (hi lo:Int->Int) (d:Int):(q27 K hi lo d).length<=K.length:=by
 unfold q27;refine gn (bg _ _) ?_;rw[G.ids,gm];exact bg _ _
theorem _root_.Go.Cx.Gs.setCell {S:Nat->Prop} {w w':World} (h:Gs S w w') {p:Addr} (hp:S p.block) (v:Value):Gs S w (w'.setCell p v) :=
 h.trans ⟨rfl,rfl,rfl,by simp[World.setCell],fun k hk hn=>Below.heap_setCell _ _ _ _ (fun e=>hn (e ▸ hp))⟩
theorem EW.gs {S:Nat->Prop} {w w':World} {E N:Nat} {f:Nat->Int} (h:EW w E N f) (g:Gs S w w') (hs:¬ S E) (hl:E < w.heap.size):EW w' E N f:=fun i hi=>by
 obtain⟨h1,h2,h3,h4⟩:=h i hi;exact⟨g.cell hs h1,g.cell hs h2,g.frozen hl hs h3,g.frozen hl hs h4⟩
theorem qep (w:World) (p:Nat):(Instr.fieldAt 71 (.pointer (some ⟨p,0,none⟩)) 0).run Tryz.prog w = .ok (.pointer (some ⟨p,0,none⟩)) w:=by simp[go_sem]
theorem qc2 (w:World) (p:Nat):(Instr.fieldAt 71 (.pointer (some ⟨p,0,none⟩)) 1).run Tryz.prog w = .ok (.pointer (some ⟨p,1,none⟩)) w:=by simp[go_sem]
theorem qk4 (w:World) (x y:Int) (h:IntKind.i64.wrap (x*y)=x*y):(Go.binOp .mul 3 (.int .i64 x) (.int .i64 y)).run Tryz.prog w = .ok (.int .i64 (x*y)) w:=by simp[go_sem,h]
theorem qko (w:World) (x y:Int) (h:IntKind.i64.wrap (x+y)=x+y):(Go.binOp .add 3 (.int .i64 x) (.int .i64 y)).run Tryz.prog w = .ok (.int .i64 (x+y)) w:=by simp[go_sem,h]
theorem qqx {w:World} {b:Nat} {x:Int} (h0:w.cell? ⟨b,1,none⟩=some (.bool (decide (x < 0)))) (h1:w.cell? ⟨b,2,none⟩=some (.string (mg x))):(Instr.loadAt 38 (.pointer (some ⟨b,1,none⟩))).run Tryz.prog w = .ok (wv x) w:=by
 show _=Result.ok (Value.agg #[.bool (decide (x < 0)),.string (mg x)]) w;simp[go_sem,h0,h1]
theorem qks {w:World} {b:Nat} {u0 u1 u2:Value} (c0:w.cell? ⟨b,0,none⟩=some u0) (c1:w.cell? ⟨b,1,none⟩=some u1) (c2:w.cell? ⟨b,2,none⟩=some u2) (x y z:Value) :
  (((w.setCell ⟨b,0,none⟩ x).setCell ⟨b,1,none⟩ y).setCell ⟨b,2,none⟩ z).cell? ⟨b,0,none⟩=some x/\(((w.setCell ⟨b,0,none⟩ x).setCell ⟨b,1,none⟩ y).setCell ⟨b,2,none⟩ z).cell? ⟨b,1,none⟩=some y/\(((w.setCell ⟨b,0,none⟩ x).setCell ⟨b,1,none⟩ y).setCell ⟨b,2,none⟩ z).cell? ⟨b,2,none⟩=some z :=
 ⟨js (js (World.cell?_setCell_same' _ _ _ (by rw[c0];rfl)) (by simp)) (by simp),js (World.cell?_setCell_same' _ _ _ (by rw[js c1 (by simp)];rfl)) (by simp),World.cell?_setCell_same' _ _ _ (by rw[js (js c2 (by simp)) (by simp)];rfl)⟩
theorem q76:∀ args w,(callFunc 118 args).run Tryz.prog w = .ok (.enter 118 args) w:=k8 Tryz.func118 (by kernel_rfl) (by kernel_rfl)
theorem qf9 (v pvv:Value) (l:List Ce) (ps:List (Int×Int)) (w:World) (h:SlC w v l) (hl:l.length<=200) (hok:COk l) (hp:Sl w 2 pvv (pv ps)) (hpI:∀ p∈ps,I64 p.1/\I64 p.2) (dim:Int) (hd : -1000<=dim/\dim<=1000) :
  Calls Tryz.prog 54 #[.agg #[v],pvv,.int .i64 dim] w fun e w'=>Below w.heap.size w w' ∧
   ((opE (l.map Ce.cl) ps≠0/\e = .returned (.agg #[.int .i64 0,.int .i64 0,.slice none 0 0])) ∨
    (opE (l.map Ce.cl) ps=0/\∃ E nr nc:Nat,nr=(yt (l.map Ce.cl) ps (dim - 1)).length/\nc=(yt (l.map Ce.cl) ps dim).length/\e = .returned (.agg #[.int .i64 nr,.int .i64 nc,.slice (some ⟨E,0,none⟩) (nr*nc) (nr*nc)])/\w.heap.size<=E/\E < w'.heap.size ∧
     EW w' E (nr*nc) (fun t=>bdE (canon (l.map Ce.cl)) (mhi (l.map Ce.cl) ps) (mlo (l.map Ce.cl) ps) dim (t / nc) (t % nc)))):=by
 obtain⟨a,len,cap,rfl⟩:=qg h.1;obtain⟨a1,dM,fW,rfl⟩:=qg hp;obtain⟨W,hW⟩ : ∃ W,W=(w.alloc (.cells #[.slice a len cap] 26)).alloc (.cells #[.int .i64 0,.int .i64 0,.slice none 0 0] 44):=⟨_,rfl⟩
 have hB:Below w.heap.size w W:=by rw[hW];exact((Below.refl _ w).alloc (nlr _) _).alloc (by simp) _
 have hc:=q6s (.slice a len cap) (.slice a1 dM fW) l ps _ (h.q8 hB) (by omega) hok (hp.q8 hB) hpI;have HC:=lhd hc;have HB:=lhd hB;obtain⟨K0,hK0⟩ : ∃ K0,K0=l.map Ce.cl:=⟨_,rfl⟩
 have HL:=lhd (show K0.length<=200 by rw[hK0,gm];exact hl);rw[<-hK0] at HC ⊢;clear hc hB h hl hok hp hpI hK0;go_enter Tryz.func54,Tryz.ntmps54;go_wp2_with fail;rw[<-hW];refine HC.out.mono ?_;rintro e w1 ⟨al,hr⟩;have aN:=lhd (HB.out.trans (al.mono HB.out.size));have m0:W.cell? ⟨w.heap.size+1,0,none⟩=some (.int .i64 0):=by
  rw[hW];simp
 have m1:W.cell? ⟨w.heap.size+1,1,none⟩=some (.int .i64 0):=by
  rw[hW];simp
 have m2:W.cell? ⟨w.heap.size+1,2,none⟩=some (.slice none 0 0):=by
  rw[hW];simp
 have mz:∀ j,W.frozen? ⟨w.heap.size+1,j,none⟩=false:=fun j=>by
  rw[hW];simp
 have A9:w.heap.size+1 < W.heap.size:=by rw[hW];simp
 obtain⟨ob,AA⟩ : ∃ ob,ob=w.heap.size+1:=⟨_,rfl⟩
 rw[<-AA] at m0 m1 m2 mz A9 ⊢;have iO:w.heap.size<=ob:=by omega
 have q0:=Cx.q8 al m0;have q1:=Cx.q8 al m1;have q2:=Cx.q8 al m2;have z0:=qv al A9 (mz 0);have z1:=qv al A9 (mz 1);have z2:=qv al A9 (mz 2);have HM:=lhd (aiq q0 (aiq q1 (aiq q2 (aiq z0 (aiq z1 (aiq z2 (aiq iO (gZ A9 al.size))))))));clear m0 m1 m2 mz A9 AA al hW iO;rcases hr with ⟨E,h1,rfl,h2⟩ | ⟨h2,h3,T,rfl,h4⟩
 ·have hb:(E != 0)=true:=by simpa using h1
  have H:=lhd (aiq h1 h2);clear h1 h2;go_wp2_with fail;obtain⟨q0,q1,q2,z0,z1,z2,iO,qI⟩:=HM.out;obtain⟨f0,f1,f2⟩:=qks q0 q1 q2 (.int .i64 0) (.int .i64 0) (.slice none 0 0);refine bodyPost_ret (v:=.agg #[.int .i64 0,.int .i64 0,.slice none 0 0]) (by simp[results,Tryz.results54,go_sem,f0,f1,f2]) rfl ⟨((aN.out.setCell iO _).setCell iO _).setCell iO _,.inl ⟨by rw[H.out.2];exact H.out.1,rfl⟩⟩
 obtain⟨BS,BH,BL,OP,a2,n,c,mm,hF,nm,JZ,FD,FE⟩:=h4.fm h3;have kU:(canon K0).length<=200:=by rw[q0z];exact HL.out
 have iP:yt K0 ps (dim - 1)=q27 (canon K0) (mhi K0 ps) (mlo K0 ps) (dim - 1):=by unfold yt;rw[if_pos h2]
 have iQ:yt K0 ps dim=q27 (canon K0) (mhi K0 ps) (mlo K0 ps) dim:=by unfold yt;rw[if_pos h2]
 obtain⟨K,hK⟩ : ∃ K,K=canon K0:=⟨_,rfl⟩
 obtain⟨hi,fG⟩ : ∃ hi,hi=mhi K0 ps:=⟨_,rfl⟩
 obtain⟨lo,lX⟩ : ∃ lo,lo=mlo K0 ps:=⟨_,rfl⟩
 rw[<-hK,<-fG,<-lX] at hF iP iQ;have rk:=lhd (aiq hK (aiq fG lX));rw[<-hK] at kU;obtain⟨rows,kA⟩ : ∃ rows,rows=q27 K hi lo (dim - 1):=⟨_,rfl⟩
 obtain⟨nW,mG⟩ : ∃ nW,nW=q27 K hi lo dim:=⟨_,rfl⟩
 rw[<-kA] at iP;rw[<-mG] at iQ;obtain⟨nr,Ka⟩ : ∃ nr,nr=rows.length:=⟨_,rfl⟩
 obtain⟨nc,Kb⟩ : ∃ nc,nc=nW.length:=⟨_,rfl⟩
 have Kc:nr<=200:=by rw[Ka,kA];exact gn (q8j hF.good _ _ _) kU
 have D6:nc<=200:=by rw[Kb,mG];exact gn (q8j hF.good _ _ _) kU
 have nX:rows.Pairwise (· < ·):=by rw[kA];exact qp5 hF.good _
 have H:=lhd (aiq h2 (aiq hF (aiq kA (aiq mG (aiq Ka (aiq Kb nX))))));have HX:=lhd (aiq iP (aiq iQ kU));have g1:((nr:Int) > 200)=False:=by simp;omega
 have g2:((nc:Int) > 200)=False:=by simp;omega
 clear h2 h3 h4 hF nm JZ FD FE q0 q1 q2 z0 z1 z2 hK fG lX kA mG Ka Kb nX iP iQ kU;go_wp2_with fail;refine(qof H.out.2.1 (dim - 1)).mono ?_;rintro e w2 ⟨r2,rfl,sY,ag⟩;rw[<-H.out.2.2.1,<-H.out.2.2.2.2.1] at sY;obtain⟨v2,lN,c2,rfl⟩:=qg (Sl.qc sY);have dF:=H.out.2.1.q8 ag;have HR:=lhd (aiq sY (aiq ag dF));clear sY ag dF;go_wp2_with fail;refine(qof HR.out.2.2 dim).mono ?_;rintro e w3 ⟨r3,rfl,qJ,ct⟩;rw[<-H.out.2.2.2.1,<-H.out.2.2.2.2.2.1] at qJ;obtain⟨v3,cz,c3,rfl⟩:=qg (Sl.qc qJ);have e2:lN=nr:=by
  obtain⟨_,_,_,he,_,_,h3,_⟩:=(Sl.qc HR.out.1);cases he;rw[xl,<-H.out.2.2.2.2.1] at h3;omega
 have e3:cz=nc:=by
  obtain⟨_,_,_,he,_,_,h3,_⟩:=(Sl.qc qJ);cases he;rw[xl,<-H.out.2.2.2.2.2.1] at h3;omega
 subst e2 e3;have nf:=Sl.qc qJ;have OU:=HR.out.2.2.q8 ct;have HS:=lhd (aiq ((Sl.qc HR.out.1).q8 ct) (aiq nf (aiq ct OU)));have pX:Below w.heap.size w w3:=aN.out.trans ((HR.out.2.1.trans (ct.mono HR.out.2.1.size)).mono aN.out.size);have eK:=lhd pX;clear qJ ct nf OU pX;go_wp2_with fail;refine(qqn lN cz w3 Kc D6).mono ?_;rintro e w4 ⟨E,rfl,OV,OW,Kd,cP⟩;obtain⟨N,hN⟩ : ∃ N,N=lN*cz:=⟨_,rfl⟩
 rw[<-hN] at Kd ⊢;have HE:=lhd (aiq OV (aiq OW (aiq Kd (aiq cP hN))));clear OV OW Kd cP hN;go_wp2_with fail;obtain⟨V,hV⟩ : ∃ V,V=w4.alloc (.cells #[.int .i64 lN,.int .i64 cz,.slice (some ⟨E,0,none⟩) N N] 44):=⟨_,rfl⟩
 rw[<-hV];obtain⟨pb,mC⟩ : ∃ pb,pb=w4.heap.size:=⟨_,rfl⟩
 have u0:V.cell? ⟨pb,0,none⟩=some (.int .i64 lN):=by rw[hV,mC];exact qd w4 _ _ (0,0) 0
 have u1:V.cell? ⟨pb,1,none⟩=some (.int .i64 cz):=by rw[hV,mC];exact qd w4 _ _ (0,0) 1
 have u2:V.cell? ⟨pb,2,none⟩=some (.slice (some ⟨E,0,none⟩) N N):=by rw[hV,mC];exact qd w4 _ _ (0,0) 2
 have sZ:Below w4.heap.size w4 V:=by rw[hV];exact(Below.refl _ w4).alloc (nlr _) _
 rw[<-mC];have FF:E≠pb:=by have:=HE.out.2.1;omega
 have OX:=HE.out.2.2.1.q8 sZ HE.out.2.1;have qK:Below w3.heap.size w3 V:=HE.out.2.2.2.1.trans (sZ.mono HE.out.2.2.2.1.size);have HV:=lhd (aiq u0 (aiq u1 (aiq u2 (aiq FF (aiq OX (aiq qK (gZ HE.out.2.1 sZ.size)))))));clear u0 u1 u2 sZ FF OX qK hV mC;have far:∀ U,Gs (fun b=>b=E) V U->Below w3.heap.size w3 U/\U.cell? ⟨pb,0,none⟩=some (.int .i64 lN)/\U.cell? ⟨pb,1,none⟩=some (.int .i64 cz)/\U.cell? ⟨pb,2,none⟩=some (.slice (some ⟨E,0,none⟩) N N):=fun U hU=>by
  obtain⟨u0,u1,u2,FF,_,qK,_⟩:=HV.out;have hb:¬ (pb=E):=fun e=>FF e.symm
  exact⟨qK.trans (hU.below qK.size fun b h=>by rw[h];exact HE.out.1),hU.cell hb u0,hU.cell hb u1,hU.cell hb u2⟩
 have Ke:=lhd far;clear far;go_wp2_with fail;go_loopw [49] (fun i wr=>∃ k:Nat,i = .int .i64 k/\k<=cz/\Hid (EW wr E N (fun t=>if t % cz < k then bdE K hi lo dim (t / cz) (t % cz) else 0)/\Gs (fun b=>b=E) V wr)) (fun i _=>cz - (vI i).toNat)
 case atStart=>exact⟨0,rfl,gp _,HV.out.2.2.2.2.1.congr fun t _=>by rw[if_neg (by omega)],Gs.refl _ _⟩
 case round =>
  obtain⟨k,rfl,hk,bV⟩:=hrel;by_cases hlt:k < cz
  ·obtain⟨wo,db⟩ : ∃ wo,wo=wr:=⟨_,rfl⟩
   subst db;obtain⟨_,_,_,sU,y1,y2,y3,y4,y5⟩:=HS.out.2.1;cases sU
   obtain⟨ad,rfl⟩ : ∃ ad,v3=some ad:=by
    cases v3 with
    | none=>have:=y4 rfl;omega
    | some ad=>exact⟨ad,rfl⟩
   have na:nW.length=cz:=H.out.2.2.2.2.2.1.symm;obtain⟨id,hid⟩ : ∃ id,nW[k]? = some id:=⟨_,g8 (by rw[na];exact hlt)⟩
   obtain⟨td,Uh,Ui,Uj⟩:=Ke.out wo bV.out.2;have d0:wo.cell? (ad.add k)=some (.int .i64 id):=Cx.q8 td (y5 ad rfl _ _ (by simp[ints,hid]));have Kf:=HS.out.2.2.2.q8 td;have t0:=Kf.fld.t0;have qH:∃ y∈K,y.id=id/\y.dim=dim - 1+1:=by
    have:=gd hid;rw[H.out.2.2.2.1] at this;obtain⟨⟨y,hy,h1,h2⟩,_⟩:=(qiu H.out.2.1.good).1 this;exact⟨y,hy,h1,by omega⟩
   have D7:I64 id:=by
    obtain⟨y,hy,rfl,_⟩:=qH;exact q4s H.out.2.1.cl H.out.2.1.ok (gE hy)
   have HK:=lhd (aiq hid (aiq td (aiq Kf (aiq qH D7))));clear y1 y2 y3 y4 y5 na hid td Kf qH D7 Uh Ui Uj;go_wp2_with fail;refine(qgv 1 _ (by decide) (by decide)).mono ?_;rintro e w5 ⟨rfl,ib⟩;have t5:=Cx.q8 ib t0;have eM:Sl (w5.alloc (.cells #[.int .i64 id,.bool false,.string (mg 1)] 71)) 3 (.slice (some ⟨w5.heap.size,0,none⟩) 1 1) (tv (ctm [(id,1)])):=q13 w5 71 3 [.int .i64 id,.bool (decide ((1:Int) < 0)),.string (mg 1)] 1 rfl (by unfold maxLen;omega);have Dq:=lhd ib;clear t0 d0 ib;unfold wv;go_upto_region 12 with fail;obtain⟨w6,oA⟩ : ∃ w6,w6=w5.alloc (.cells #[.int .i64 id,.bool false,.string (mg 1)] 71):=⟨_,rfl⟩
   have t6:w6.cell? ⟨T,0,none⟩=some (.slice a2 n c):=by rw[oA];exact qk t5 _
   have B6:Below wo.heap.size wo w6:=by rw[oA];exact Dq.out.alloc Dq.out.size _
   rw[<-oA] at eM ⊢;have FG:=HK.out.2.2.1.q8 B6;have dZ:TOk 1 (ctm [(id,1)]):=LOk.tok fun p hp=>by
    have:p=(id,1):=by simpa using hp
    rw[this];exact⟨HK.out.2.2.2.2,q31 1 1 (by decide)⟩
   have jV:(zk mm).length<=256000:=by rw[q2q,FG.cl];exact q6v FG.good
   have jD:=lhd (aiq eM (aiq B6 (aiq FG (aiq dZ jV))));clear eM B6 FG dZ jV oA t5;go_wp2_with fail;refine(q5y _ mm _ (ctm [(id,1)]) 1 w6 jD.out.2.2.1.fld.row jD.out.2.2.1.ok jD.out.1 jD.out.2.2.2.1 (by rw[qz];have:=jD.out.2.2.2.2;show _+1+_<=_;omega)).mono ?_;rintro e w7 ⟨r7,rfl,⟨Lb,Kg,OY,Uk,yQ⟩,jB⟩;obtain⟨v7,n7,c7,rfl⟩:=qg (Sl.qc yQ);have hG:=jD.out.2.2.1.good;have e9:co Lb=bdD K id 1:=funext fun d=>by
    rw[OY,zv,vg,q2q,jD.out.2.2.1.cl];rfl
   have Kh:In0 K (co Lb):=by rw[e9];exact qcu hG id 1
   have OZ:∀ d,nb (co Lb d)<=1:=fun d=>by rw[e9];exact qod hG id d
   have D8:TOk 1 (ctm Lb):=q9i jD.out.2.2.1.cl jD.out.2.2.1.ok Kg Kh OZ;have l7:=q6u Kg Kh;have D9:=HX.out.2.2;have Pa:=jD.out.2.2.1.q8 jB;have dU:=lhd (aiq yQ (aiq jB (aiq e9 (aiq D8 (aiq Pa (gn l7 D9))))));clear yQ jB e9 D8 Pa l7 D9 Kg OY Uk Kh OZ hG t6;go_wp2_with fail;refine(qoe dU.out.2.2.2.2.1 _ (ctm Lb) 1 (Sl.qc dU.out.1) dU.out.2.2.2.1 (by rw[qz];have:=dU.out.2.2.2.2.2;omega)).mono ?_;rintro e w8 ⟨r8,L,rfl,uZ,rK,fB,Ki,Pb,ox⟩;rw[zv,dU.out.2.2.1] at rK;obtain⟨v8,n8,c8,rfl⟩:=qg (Sl.qc fB);have e8:n8=L.length:=by
    obtain⟨_,_,_,he,_,_,h3,_⟩:=(Sl.qc fB);cases he;rw[z6,qz] at h3;omega
   have Kj:Below wo.heap.size wo w8:=jD.out.2.1.trans ((dU.out.2.1.trans (ox.mono dU.out.2.1.size)).mono jD.out.2.1.size);have Kk:E < wo.heap.size:=gZ HV.out.2.2.2.2.2.2 bV.out.2.size;have DA:=bV.out.1.q8 Kj Kk;have Pc:Gs (fun b=>b=E) V w8:=bV.out.2.trans (Gs.xh Kj);have Pd:=Sl.qc fB;have WJ:n8<=4000:=by rw[e8];exact gn (q6u uZ Ki) H.out.2.1.good.len
   have qL:∀ g,(Value.slice v8 n8 c8).ownBlock=some g->wo.heap.size<=g:=fun g hg=>gn (gn jD.out.2.1.size dU.out.2.1.size) (fB.lt g hg).1
   have nY:=lhd (aiq uZ (aiq rK (aiq Pd (aiq Pb (aiq DA (aiq Pc (aiq Kk (aiq e8 (aiq qL Ki)))))))));clear uZ rK fB Ki Pb ox Kj DA Pc Pd Kk e8 qL;go_wp2_with fail;go_loopw [67] (fun i wr=>∃ q:Nat,i = .int .i64 q/\q<=n8/\Hid (EW wr E N (fun t=>if t % cz < k then bdE K hi lo dim (t / cz) (t % cz) else if t % cz=k then co (L.take q) (rows.getD (t / cz) 0) else 0)/\Gs (fun b=>b=E) w8 wr)) (fun i _=>n8 - (vI i).toNat)
   case atStart=>exact⟨0,rfl,gp _,nY.out.2.2.2.2.1.congr fun t _=>by
    by_cases h1:t % cz < k
    ·rw[if_pos h1,if_pos h1]
    ·rw[if_neg h1,if_neg h1,List.take_zero];split <;> rfl,Gs.refl _ _⟩
   case round =>
    obtain⟨q,rfl,hq,ez⟩:=hrel;by_cases JY:q < n8
    ·obtain⟨_,_,_,sU,y1,y2,y3,y4,y5⟩:=nY.out.2.2.1;cases sU
     obtain⟨mI,rfl⟩ : ∃ ad,v8=some ad:=by
      cases v8 with
      | none=>have:=y4 rfl;omega
      | some ad=>exact⟨ad,rfl⟩
     obtain⟨⟨cc,x⟩,mW⟩ : ∃ p,L[q]? = some p:=⟨_,g8 (by rw[<-nY.out.2.2.2.2.2.2.2.1];exact JY)⟩
     obtain⟨e0,e1,e2⟩:=jd (ctm L) q ⟨cc,decide (x < 0),mg x⟩ (by unfold ctm;rw[List.getElem?_map,mW];rfl);have DB:¬ (mI.block=E):=fun e=>by
      have h1:=nY.out.2.2.2.2.2.2.1;have h2:=nY.out.2.2.2.2.2.2.2.2.1 mI.block (by cases mI;rfl);omega
     have hblk:∀ j,(mI.add j).block=mI.block:=fun j=>by unfold Addr.add;split <;> rfl
     have mK:¬ ((mI.add (q*3)).block=E):=by rw[hblk];exact DB
     have d0:wr.cell? (mI.add (q*3))=some (.int .i64 cc):=ez.out.2.cell mK (y5 mI rfl _ _ e0);have d1:wr.cell? ⟨(mI.add (q*3)).block,(mI.add (q*3)).off+1,none⟩=some (.bool (decide (x < 0))):=ez.out.2.cell mK (by rw[qi _ _ _ (by omega)];exact y5 mI rfl _ _ e1);have d2:wr.cell? ⟨(mI.add (q*3)).block,(mI.add (q*3)).off+2,none⟩=some (.string (mg x)):=ez.out.2.cell mK (by rw[qi _ _ _ (by omega)];exact y5 mI rfl _ _ e2);have HCX:=lhd mW;clear y1 y2 y3 y4 y5 e0 e1 e2 DB hblk mK mW;have AB:Gs (fun b=>b=E) V wr:=nY.out.2.2.2.2.2.1.trans ez.out.2;obtain⟨nZ,_,_,Pe⟩:=Ke.out wr AB;have rL:E < wr.heap.size:=gZ HV.out.2.2.2.2.2.2 AB.size;obtain⟨wm,ly⟩ : ∃ wm,wm=wr.alloc (.cells #[.int .i64 cc,.bool (decide (x < 0)),.string (mg x)] 71):=⟨_,rfl⟩
     obtain⟨mp,dt⟩ : ∃ mp,mp=wr.heap.size:=⟨_,rfl⟩
     have m0:wm.cell? ⟨mp,0,none⟩=some (.int .i64 cc):=by rw[ly,dt];exact qd wr _ _ (0,0) 0
     have m1:wm.cell? ⟨mp,1,none⟩=some (.bool (decide (x < 0))):=by rw[ly,dt];exact qd wr _ _ (0,0) 1
     have m2:wm.cell? ⟨mp,2,none⟩=some (.string (mg x)):=by rw[ly,dt];exact qd wr _ _ (0,0) 2
     have rM:Below wr.heap.size wr wm:=by rw[ly];exact(Below.refl _ wr).alloc (nlr _) _
     have o2:=Cx.q8 rM Pe;have fC:=(HS.out.1.q8 nZ).q8 rM;have DC:cc∈rows:=by
      rw[H.out.2.2.1];refine qgi H.out.2.1.good H.out.2.1.mtc H.out.2.1.ac HK.out.2.2.2.1 ?_;rw[<-nY.out.2.1];have hm:=gd HCX.out;have:=zl nY.out.1.1 hm;have h2:=nY.out.1.2 _ hm;intro e;exact h2 (this.symm.trans e)
     obtain⟨i0,yR,DD⟩:=List.getElem_of_mem DC;have hi0:rows[i0]? = some cc:=by rw[g8 yR,DD]
     have oe:i0 < lN:=by rw[H.out.2.2.2.2.1];exact yR
     obtain⟨ix,sF⟩ : ∃ ix:Nat,ix=i0*cz+k:=⟨_,rfl⟩
     have og:ix < N:=by
      rw[sF,HE.out.2.2.2.2];have h1:(i0+1)*cz<=lN*cz:=bw _ oe;rw[Nat.add_mul] at h1;omega
     have hmul:(i0:Int)*(cz:Int)<=40000/\0<=(i0:Int)*(cz:Int):=by
      have h1:i0*cz<=200*200:=Nat.mul_le_mul (by omega) D6;rw[<-Int.natCast_mul];omega
     have ec:(i0:Int)*(cz:Int)+(k:Int)=(ix:Int):=by rw[sF,Int.natCast_add,Int.natCast_mul]
     have AD:=ez.out.1.q8 rM rL;have hE:∀ w',Below wm.heap.size wm w'->Bx' w' E ix (if ix % cz < k then bdE K hi lo dim (ix / cz) (ix % cz) else if ix % cz=k then co (L.take q) (rows.getD (ix / cz) 0) else 0):=fun w' h=>AD.q8 h (gZ rL rM.size) ix og
     obtain⟨od,EH⟩ : ∃ od,od=(if ix % cz < k then bdE K hi lo dim (ix / cz) (ix % cz) else if ix % cz=k then co (L.take q) (rows.getD (ix / cz) 0) else 0):=⟨_,rfl⟩
     rw[<-EH] at hE;have nX:=H.out.2.2.2.2.2.2;have HO:=lhd (aiq hi0 (aiq sF (aiq og (aiq rM (aiq AD (aiq AB (aiq hE (aiq hmul (aiq ec (aiq fC rL))))))))));clear DD yR DC EH nZ Pe AB rM AD;go_upto_region 15 with fail;rw[<-dt,<-ly];clear dt ly sF hi0 og hE hmul ec fC rL nX oe d0 d1 d2;refine qp4 fun KO FH=>?_
     go_cut [71] from 72 to 84 (fun _ wx=>∃ w',Hid (Below wm.heap.size wm w')/\wx=(w'.setCell ⟨E,ix*2,none⟩ (.bool (decide (x < 0)))).setCell ⟨E,ix*2+1,none⟩ (.string (mg x)))
     case first =>
      rename_i J K2 hJ jC;obtain⟨hi0,sF,og,rM,AD,AB,hE,hmul,ec,fC,rL⟩:=HO.out;have nX:=H.out.2.2.2.2.2.2;refine qbs rfl (fun i' v=>∀ x',([some (.pointer (some ⟨pb,2,none⟩)),some (.slice (some ⟨E,0,none⟩) N N),some (.slice v2 lN c2),some (.pointer (some ⟨mp,0,none⟩)),some (.int .i64 cc),some (.int .i64 i0),some (.slice (some ad) cz c3),some (.int .i64 cz),some (.int .i64 ((i0:Int)*cz)),some (.int .i64 k),some (.int .i64 ix),some (.pointer (some ⟨mp,1,none⟩)),some (wv x),some (.pointer (some ⟨E,ix*2,none⟩))] : List (Option Value)).getD i' none=some x'->v=x') 14 15 88 rfl (by kernel_rfl) (by kernel_rfl) (by decide) (by kernel_rfl) (by kernel_rfl) (fun a w''=>K2 a w'') ?step ?store (fun a w'' h=>h)
      case step =>
       intro i' o ho ak a w' hw hd af ao;have Km:=af 11 (qu (by kernel_rfl));have Ul:=af 9 (qu (by kernel_rfl));have DE:=af 16 (qu (by kernel_rfl));have Kn:=af 10 (qu (by kernel_rfl));have Ko:=af 12 (qu (by kernel_rfl))
       match i',ho,hd with
       | 0,ho,hd =>
        obtain rfl:=osi ho;exact⟨rfl,gv _,q8b _ _ _ rfl _ Km _ (qdv _ _) ⟨_,rfl,fun _ h=>osi h,Below.refl _ _⟩⟩
       | 1,ho,hd =>
        obtain rfl:=osi ho;exact⟨rfl,gv _,q8o _ _ rfl _ (hd 0 _ _ rfl rfl (by kernel_rfl) _ rfl) _ (qis _ _ _ _ _ (Cx.q8 hw o2)) ⟨_,rfl,fun _ h=>osi h,Below.refl _ _⟩⟩
       | 2,ho,hd =>
        obtain rfl:=osi ho;exact⟨rfl,gv _,q1b _ (.inl rfl) ⟨_,rfl,fun _ h=>Ul.trans (osi h),Below.refl _ _⟩⟩
       | 3,ho,hd =>
        obtain rfl:=osi ho;exact⟨rfl,gv _,q8b _ _ _ rfl _ DE _ (qep _ _) ⟨_,rfl,fun _ h=>osi h,Below.refl _ _⟩⟩
       | 4,ho,hd =>
        obtain rfl:=osi ho;exact⟨rfl,gv _,q8o _ _ rfl _ (hd 3 _ _ rfl rfl (by kernel_rfl) _ rfl) _ (qe0 _ _ _ (Cx.q8 hw m0)) ⟨_,rfl,fun _ h=>osi h,Below.refl _ _⟩⟩
       | 5,ho,hd =>
        obtain rfl:=osi ho;have f0:a.tmps.getD 73 undef = .slice v2 lN c2:=hd 2 _ _ rfl rfl (by kernel_rfl) _ rfl;have f1:a.tmps.getD 75 undef = .int .i64 cc:=hd 4 _ _ rfl rfl (by kernel_rfl) _ rfl;exact⟨rfl,gv _,qdj _ _ _ rfl q76 #[.slice v2 lN c2,.int .i64 cc] (by simp[Act.eval,f0,f1]) ((qps _ rows cc _ (fC.q8 hw)).mono fun e w6 ⟨i,he,hf,hb⟩=>⟨_,he,_,rfl,fun _ h=>(congrArg (Value.int .i64) (qk3 nX hi0 hf)).trans (osi h),hb⟩)⟩
       | 6,ho,hd =>
        obtain rfl:=osi ho;exact⟨rfl,gv _,q1b _ (.inl rfl) ⟨_,rfl,fun _ h=>Kn.trans (osi h),Below.refl _ _⟩⟩
       | 7,ho,hd =>
        obtain rfl:=osi ho;exact⟨rfl,gv _,qi5 _ rfl Tryz.underlying22 _ cz c3 (hd 6 _ _ rfl rfl (by kernel_rfl) _ rfl) ⟨_,rfl,fun _ h=>osi h,Below.refl _ _⟩⟩
       | 8,ho,hd =>
        obtain rfl:=osi ho;exact⟨rfl,gv _,qnf _ _ _ _ _ rfl _ _ (hd 5 _ _ rfl rfl (by kernel_rfl) _ rfl) (hd 7 _ _ rfl rfl (by kernel_rfl) _ rfl) _ rfl (qk4 _ _ _ (IntWalk.i64_in _ (by omega))) ⟨_,rfl,fun _ h=>osi h,Below.refl _ _⟩⟩
       | 9,ho,hd =>
        obtain rfl:=osi ho;exact⟨rfl,gv _,q1b _ (.inl rfl) ⟨_,rfl,fun _ h=>Ko.trans (osi h),Below.refl _ _⟩⟩
       | 10,ho,hd =>
        obtain rfl:=osi ho;exact⟨rfl,gv _,qnf _ _ _ _ _ rfl _ _ (hd 8 _ _ rfl rfl (by kernel_rfl) _ rfl) (hd 9 _ _ rfl rfl (by kernel_rfl) _ rfl) _ rfl (qko _ _ _ (IntWalk.i64_in _ (by omega))) ⟨_,rfl,fun _ h=>(congrArg (Value.int .i64) ec).trans (osi h),Below.refl _ _⟩⟩
       | 11,ho,hd =>
        obtain rfl:=osi ho;exact⟨rfl,gv _,q8b _ _ _ rfl _ DE _ (qc2 _ _) ⟨_,rfl,fun _ h=>osi h,Below.refl _ _⟩⟩
       | 12,ho,hd =>
        obtain rfl:=osi ho;exact⟨rfl,gv _,q8o _ _ rfl _ (hd 11 _ _ rfl rfl (by kernel_rfl) _ rfl) _ (qqx (Cx.q8 hw m1) (Cx.q8 hw m2)) ⟨_,rfl,fun _ h=>osi h,Below.refl _ _⟩⟩
       | 13,ho,hd =>
        obtain rfl:=osi ho;exact⟨rfl,gv _,qc9 _ _ _ rfl _ _ (hd 1 _ _ rfl rfl (by kernel_rfl) _ rfl) (hd 10 _ _ rfl rfl (by kernel_rfl) _ rfl) _ (qjr _ _ _ _ _ og) ⟨_,rfl,fun _ h=>osi h,Below.refl _ _⟩⟩
       | 14,ho,hd=>exact absurd rfl ak
       | i'+15,ho,hd =>
        have:i'+15 < 15:=(gw.1 ho).1;omega
      case store =>
       intro o ho a w' ao kQ hw hf af;obtain rfl:=osi ho;have f0:a.tmps.getD 84 undef = .pointer (some ⟨E,ix*2,none⟩):=hf 13 _ _ rfl rfl _ rfl;have f1:a.tmps.getD 83 undef=wv x:=hf 12 _ _ rfl rfl _ rfl;refine⟨rfl,qhx _ _ _ rfl _ _ f0 f1 (qjs _ _ _ _ _ _ (hE _ hw).1 (hE _ hw).2.1 (hE _ hw).2.2.1 (hE _ hw).2.2.2) ?_⟩;refine jC _ _ (Met.intro (hJ _ _ ⟨a.tmps.getD 71 undef,a.tmps.getD 72 undef,a.tmps.getD 73 undef,a.tmps.getD 74 undef,a.tmps.getD 75 undef,a.tmps.getD 76 undef,a.tmps.getD 77 undef,a.tmps.getD 78 undef,a.tmps.getD 79 undef,a.tmps.getD 80 undef,a.tmps.getD 81 undef,a.tmps.getD 82 undef,a.tmps.getD 83 undef,a.tmps.getD 84 undef,⟨w',lhd hw,rfl⟩,(q8z ao kQ af).trans ?_⟩));kernel_rfl
     case rest =>
      obtain⟨w',vD,rfl⟩:=hcut;refine FH _ _ ?_;go_wp2;go_roundw
      case measure=>simp[vI];omega
      case rel =>
       obtain⟨hi0,sF,og,rM,AD,AB,hE,hmul,ec,fC,rL⟩:=HO.out;have Kp:=((AD.q8 vD.out (gZ rL rM.size)).put ix x)
       refine⟨q+1,qh (by omega),by omega,(show Hid _ from Kp.congr fun t ht=>?_),?_⟩
       ·rw[sF];exact qjx H.out.2.2.2.2.2.2 nY.out.1 HCX.out hi0 hlt (bdE K hi lo dim) t (by rw[<-H.out.2.2.2.2.1,<-HE.out.2.2.2.2];exact ht)
       ·have cJ:=(ez.out.2.trans (Gs.xh rM)).trans (Gs.xh vD.out);exact(cJ.setCell rfl _).setCell rfl _
    ·have Um:q=n8:=by omega
     subst Um;go_wp2_with fail;go_roundw
     case measure=>simp[vI];omega
     case rel =>
      refine⟨k+1,qh (by omega),by omega,(show Hid _ from ez.out.1.congr fun t ht=>?_),nY.out.2.2.2.2.2.1.trans ez.out.2⟩;by_cases h1:t % cz < k
      ·rw[if_pos h1,if_pos (by omega)]
      ·by_cases h2:t % cz=k
       ·rw[if_neg h1,if_pos h2,if_pos (by omega),ge (by rw[<-nY.out.2.2.2.2.2.2.2.1];exact nlr _),nY.out.2.1];unfold bdE;rw[h2,<-H.out.2.2.1,<-H.out.2.2.2.1,gI (l:=nW),HK.out.1];rfl
       ·rw[if_neg h1,if_neg h2,if_neg (by omega)]
  ·have bJ:k=cz:=by omega
   subst bJ;obtain⟨nZ,r0,r1,r2⟩:=Ke.out wr bV.out.2;obtain⟨q0,q1,q2,z0,z1,z2,iO,qI⟩:=HM.out;have kP:Below w1.heap.size w1 wr:=(HR.out.2.1.trans ((HS.out.2.2.1.trans (nZ.mono HS.out.2.2.1.size)).mono HR.out.2.1.size))
   have o0:=Cx.q8 kP q0;have o1:=Cx.q8 kP q1;have o2:=Cx.q8 kP q2;have y0:=qv kP qI z0;have y1:=qv kP qI z1;have y2:=qv kP qI z2;have aJ:=lhd (aiq nZ (aiq iO kP));clear q0 q1 q2 z0 z1 z2 iO kP nZ qI;go_wp2_with fail;obtain⟨f0,f1,f2⟩:=qks o0 o1 o2 (.int .i64 lN) (.int .i64 k) (.slice (some ⟨E,0,none⟩) N N);have cm:Below w.heap.size w wr:=eK.out.trans (aJ.out.1.mono eK.out.size);have Kq:¬ (E=ob):=fun e=>by
    have h1:=HM.out.2.2.2.2.2.2.2;have h2:=HR.out.2.1.size;have h3:=HS.out.2.2.1.size;have h4:=HE.out.1;omega
   have rL:E < wr.heap.size:=gZ HV.out.2.2.2.2.2.2 bV.out.2.size;refine bodyPost_ret (v:=.agg #[.int .i64 lN,.int .i64 k,.slice (some ⟨E,0,none⟩) N N]) (by simp[results,Tryz.results54,go_sem,f0,f1,f2]) rfl ⟨((cm.setCell aJ.out.2.1 _).setCell aJ.out.2.1 _).setCell aJ.out.2.1 _,.inr ⟨H.out.1,E,lN,k,?_,?_,?_,?_,?_,?_⟩⟩
   ·rw[HX.out.1];exact H.out.2.2.2.2.1
   ·rw[HX.out.2.1];exact H.out.2.2.2.2.2.1
   ·rw[HE.out.2.2.2.2]
   ·exact gn eK.out.size HE.out.1
   ·simpa [World.setCell] using rL
   ·rw[<-HE.out.2.2.2.2];have hg:Gs (fun b=>b=ob) wr (((wr.setCell ⟨ob,0,none⟩ (.int .i64 lN)).setCell ⟨ob,1,none⟩ (.int .i64 k)).setCell ⟨ob,2,none⟩ (.slice (some ⟨E,0,none⟩) N N)):=Gs.setCell (p:=⟨ob,2,none⟩) (Gs.setCell (p:=⟨ob,1,none⟩) (Gs.setCell (p:=⟨ob,0,none⟩) (Gs.refl (fun b=>b=ob) wr) rfl _) rfl _) rfl _;refine(bV.out.1.gs hg Kq rL).congr fun t ht=>?_
    have dr:0 < k:=by
     rcases Nat.eq_zero_or_pos k with h0 | h0
     ·rw[HE.out.2.2.2.2,h0,Nat.mul_zero] at ht;omega
     ·exact h0
    rw[if_pos (Nat.mod_lt _ dr),<-rk.out.1,<-rk.out.2.1,<-rk.out.2.2]
end Go.Proofs.YtlhicnfeajejhaaGreatDoor
