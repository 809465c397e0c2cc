/- slices.Index at ints. Package morse: Boundary. Conditions: none. -/
import Derived.Test.YtlhicnfeajejhaaGreatDoorJQj
set_option maxRecDepth 1000000
set_option maxHeartbeats 16000000
namespace Go.Proofs.YtlhicnfeajejhaaGreatDoor
open Go.RowKit Go.Cx
attribute [local go_sem ↓] Go.wp_at_zero Go.wp_at_succ
theorem qps (v:Value) (L:List Int) (x:Int) (w:World) (h:Sl w 1 v (ints L)) :
  Calls Tryz.prog 118 #[v,.int .i64 x] w fun e w'=>∃ i:Int,e = .returned (.int .i64 i)/\q2s L (fun y=>y == x) i/\Below w.heap.size w w':=by
 obtain⟨a,len,cap,rfl,h1,h2,h3,h4,h5⟩:=h;unfold maxLen at h2;rw[xl] at h3;have hl:L.length=len:=by omega
 clear h3;have Hl:=lhd hl;clear hl;have H4:=lhd h4;clear h4;have H5:=lhd h5;clear h5;go_enter Tryz.func118,Tryz.ntmps118;go_wp2;go_loopw [5,8] (fun _ i wr=>∃ k:Nat,i = .int .i64 k/\k<=len/\Hid (∀ t∈L.take k,(t == x)=false)/\Below w.heap.size w wr) (fun _ i _=>len - (vI i).toNat)
 case atStart=>exact⟨0,rfl,Nat.zero_le _,(show Hid _ from fun t ht=>by simp at ht),Below.refl _ _⟩
 case round =>
  obtain⟨k,rfl,hk,HN,hB⟩:=hrel;by_cases hlt:k < len
  ·obtain⟨ad,rfl⟩ : ∃ ad,a=some ad:=by
    cases a with
    | none=>have:=H4.out rfl;omega
    | some ad=>exact⟨ad,rfl⟩
   obtain⟨t,ht⟩ : ∃ t,L[k]? = some t:=⟨_,List.getElem?_eq_getElem (by rw[Hl.out];exact hlt)⟩
   have e0:(ints L)[k]? = some (.int .i64 t):=by simp[ints,ht]
   have d0:wr.cell? (ad.add k)=some (.int .i64 t):=q8 hB (H5.out ad rfl _ _ e0);have HT:=lhd ht;clear e0 ht;by_cases hft:t=x
   ·have HFT:=lhd (show (t == x)=true by simpa using hft);subst hft;go_wp2;go_ret;exact⟨k,rfl,.inr ⟨k,t,rfl,HT.out,HFT.out,HN.out⟩,hB⟩
   ·have hff:(x == t)=false:=by simpa using fun e:x=t=>hft e.symm
    have HFT:=lhd (show (t == x)=false by simpa using hft);clear hft;go_wp2;go_roundw
    case measure=>simp[vI];omega
    case rel =>
     refine⟨k+1,qh (by omega),by omega,(show Hid _ from fun u hu=>?_),hB⟩;rw[List.take_add_one,HT.out] at hu;rcases List.mem_append.1 hu with hu | hu
     ·exact HN.out u hu
     ·simp at hu;rw[hu];exact HFT.out
  ·have hke:k=len:=by omega
   have Hke:=lhd hke;clear hke;go_wp2;go_ret;refine⟨-1,rfl,.inl ⟨rfl,?_⟩,hB⟩;have hn:=HN.out;rw[List.take_of_length_le (by rw[Hl.out,Hke.out];exact nlr _)] at hn;exact hn
end Go.Proofs.YtlhicnfeajejhaaGreatDoor
namespace Go.Cx
open Go.Proofs.YtlhicnfeajejhaaGreatDoor
noncomputable def bdE (K:List Cl) (hi lo:Int->Int) (d:Int) (i j:Nat):Int:=q85 K hi lo (bdD K ((q27 K hi lo d).getD j 0) 1) ((q27 K hi lo (d - 1)).getD i 0)
theorem qga {L:List (Int×Int)} {q:Nat} {p:Int×Int} (hq:L[q]? = some p) (d:Int):co (L.take (q+1)) d=co (L.take q) d+if p.1=d then p.2 else 0:=by
 rw[List.take_add_one,hq];show co (L.take q++[p]) d=_;rw[ji];show _+((if p.1=d then p.2 else 0)+0)=_;rw[Int.add_zero]
theorem qgj9 {L:List (Int×Int)} (hL:Cn L) {q:Nat} {p:Int×Int} (hq:L[q]? = some p):co (L.take q) p.1=0:=by
 refine q0j _ _ fun r hr e=>?_
 obtain⟨i,hi,rfl⟩:=List.mem_take_iff_getElem.1 hr;obtain⟨hql,rfl⟩:=List.getElem?_eq_some_iff.1 hq;have:=List.pairwise_iff_getElem.1 hL.1 i q (by omega) hql (by omega);omega
theorem qjx9 {rows:List Int} (hpw:rows.Pairwise (· < ·)) {L:List (Int×Int)} (hL:Cn L) {q i0 nc k:Nat} {c x:Int} (hq:L[q]? = some (c,x)) (hi0:rows[i0]? = some c) (hk:k < nc) (M:Nat->Nat->Int) (t:Nat) (ht:t < rows.length*nc) :
  (if t=i0*nc+k then x else if t % nc < k then M (t / nc) (t % nc) else if t % nc=k then co (L.take q) (rows.getD (t / nc) 0) else 0)=if t % nc < k then M (t / nc) (t % nc) else if t % nc=k then co (L.take (q+1)) (rows.getD (t / nc) 0) else 0:=by
 by_cases h:t=i0*nc+k
 ·have h1:t % nc=k:=by rw[h,Nat.add_comm,Nat.add_mul_mod_self_right,Nat.mod_eq_of_lt hk]
  have h2:t / nc=i0:=by rw[h,Nat.add_comm,Nat.add_mul_div_right _ _ (by omega),Nat.div_eq_of_lt hk,Nat.zero_add]
  rw[if_pos h,h1,h2,if_neg (by omega),if_pos rfl,qga hq,List.getD_eq_getElem?_getD,hi0];show x=co (L.take q) c+if c=c then x else 0
  rw[if_pos rfl,qgj9 hL hq,Int.zero_add]
 ·rw[if_neg h];by_cases h1:t % nc < k
  ·rw[if_pos h1,if_pos h1]
  ·rw[if_neg h1,if_neg h1];by_cases h2:t % nc=k
   ·rw[if_pos h2,if_pos h2,qga hq,if_neg,Int.add_zero];intro he;have he:c=rows.getD (t / nc) 0:=he;have hlt:t / nc < rows.length:=(Nat.div_lt_iff_lt_mul (by omega)).2 ht;rw[List.getD_eq_getElem?_getD,List.getElem?_eq_getElem hlt] at he;obtain⟨hil,hie⟩:=List.getElem?_eq_some_iff.1 hi0;have he:c=rows[t / nc]:=he;have hii:t / nc=i0:=by
     rcases Nat.lt_trichotomy (t / nc) i0 with hl | hl | hl
     ·have:=List.pairwise_iff_getElem.1 hpw _ _ hlt hil hl;omega
     ·exact hl
     ·have:=List.pairwise_iff_getElem.1 hpw _ _ hil hlt hl;omega
    have:=Nat.div_add_mod t nc;rw[hii,h2,Nat.mul_comm] at this;exact h this.symm
   ·rw[if_neg h2,if_neg h2]
theorem qk3 {rows:List Int} (hpw:rows.Pairwise (· < ·)) {c i:Int} {i0:Nat} (hi0:rows[i0]? = some c) (h:Go.Proofs.YtlhicnfeajejhaaGreatDoor.q2s rows (fun y=>y == c) i):i=i0:=by
 rcases h with ⟨_,h⟩ | ⟨k,t,rfl,hk,ht,_⟩
 ·have:=h c (List.mem_of_getElem? hi0);simp at this
 ·have ht:t=c:=by simpa using ht
  subst ht;obtain⟨a1,a2⟩:=List.getElem?_eq_some_iff.1 hk;obtain⟨b1,b2⟩:=List.getElem?_eq_some_iff.1 hi0;rcases Nat.lt_trichotomy k i0 with hl | hl | hl
  ·have:=List.pairwise_iff_getElem.1 hpw _ _ a1 b1 hl;omega
  ·rw[hl]
  ·have:=List.pairwise_iff_getElem.1 hpw _ _ b1 a1 hl;omega
end Go.Cx
namespace Go.Proofs.YtlhicnfeajejhaaGreatDoor
open Go.Cx Go.RowKit
attribute [local go_sem ↓] Go.wp_at_zero Go.wp_at_succ
theorem q8j {K:List Cl} (G:Cx.Good K) (hi lo:Int->Int) (d:Int):(q27 K hi lo d).length<=K.length:=by
 unfold q27;refine Nat.le_trans (List.length_filter_le _ _) ?_;rw[G.ids,List.length_map];exact List.length_filter_le _ _
theorem _root_.Go.Cx.Gs.setCell {S:Nat->Prop} {w w':World} (h:Gs S w w') {p:Addr} (hp:S p.block) (v:Value):Gs S w (w'.setCell p v) :=
 h.trans ⟨rfl,rfl,rfl,by simp[World.setCell],fun k hk hn=>Below.heap_setCell _ _ _ _ (fun e=>hn (e ▸ hp))⟩
theorem EW.gs {S:Nat->Prop} {w w':World} {E N:Nat} {f:Nat->Int} (h:EW w E N f) (g:Gs S w w') (hs:¬ S E) (hl:E < w.heap.size):EW w' E N f:=fun i hi=>by
 obtain⟨h1,h2,h3,h4⟩:=h i hi;exact⟨g.cell hs h1,g.cell hs h2,g.frozen hl hs h3,g.frozen hl hs h4⟩
theorem qep9 (w:World) (p:Nat):(Instr.fieldAt 71 (.pointer (some ⟨p,0,none⟩)) 0).run Tryz.prog w = .ok (.pointer (some ⟨p,0,none⟩)) w:=by simp[go_sem]
theorem qc2 (w:World) (p:Nat):(Instr.fieldAt 71 (.pointer (some ⟨p,0,none⟩)) 1).run Tryz.prog w = .ok (.pointer (some ⟨p,1,none⟩)) w:=by simp[go_sem]
theorem qk4 (w:World) (x y:Int) (h:IntKind.i64.wrap (x*y)=x*y):(Go.binOp .mul 3 (.int .i64 x) (.int .i64 y)).run Tryz.prog w = .ok (.int .i64 (x*y)) w:=by simp[go_sem,h]
theorem qko (w:World) (x y:Int) (h:IntKind.i64.wrap (x+y)=x+y):(Go.binOp .add 3 (.int .i64 x) (.int .i64 y)).run Tryz.prog w = .ok (.int .i64 (x+y)) w:=by simp[go_sem,h]
theorem qqx {w:World} {b:Nat} {x:Int} (h0:w.cell? ⟨b,1,none⟩=some (.bool (decide (x < 0)))) (h1:w.cell? ⟨b,2,none⟩=some (.string (mg x))):(Instr.loadAt 38 (.pointer (some ⟨b,1,none⟩))).run Tryz.prog w = .ok (wv x) w:=by
 show _=Result.ok (Value.agg #[.bool (decide (x < 0)),.string (mg x)]) w;simp[go_sem,h0,h1]
theorem qks {w:World} {b:Nat} {u0 u1 u2:Value} (c0:w.cell? ⟨b,0,none⟩=some u0) (c1:w.cell? ⟨b,1,none⟩=some u1) (c2:w.cell? ⟨b,2,none⟩=some u2) (x y z:Value) :
  (((w.setCell ⟨b,0,none⟩ x).setCell ⟨b,1,none⟩ y).setCell ⟨b,2,none⟩ z).cell? ⟨b,0,none⟩=some x/\(((w.setCell ⟨b,0,none⟩ x).setCell ⟨b,1,none⟩ y).setCell ⟨b,2,none⟩ z).cell? ⟨b,1,none⟩=some y/\(((w.setCell ⟨b,0,none⟩ x).setCell ⟨b,1,none⟩ y).setCell ⟨b,2,none⟩ z).cell? ⟨b,2,none⟩=some z :=
 ⟨js9 (js9 (World.cell?_setCell_same' _ _ _ (by rw[c0];rfl)) (by simp)) (by simp),js9 (World.cell?_setCell_same' _ _ _ (by rw[js9 c1 (by simp)];rfl)) (by simp),World.cell?_setCell_same' _ _ _ (by rw[js9 (js9 c2 (by simp)) (by simp)];rfl)⟩
theorem q76:∀ args w,(callFunc 118 args).run Tryz.prog w = .ok (.enter 118 args) w:=k8 Tryz.func118 (by kernel_rfl) (by kernel_rfl)
theorem qf9 (v pvv:Value) (l:List Ce) (ps:List (Int×Int)) (w:World) (h:SlC w v l) (hl:l.length<=200) (hok:COk l) (hp:Sl w 2 pvv (pv ps)) (hpI:∀ p∈ps,I64 p.1/\I64 p.2) (dim:Int) (hd : -1000<=dim/\dim<=1000) :
  Calls Tryz.prog 54 #[.agg #[v],pvv,.int .i64 dim] w fun e w'=>Below w.heap.size w w' ∧
   ((opE (l.map Ce.cl) ps≠0/\e = .returned (.agg #[.int .i64 0,.int .i64 0,.slice none 0 0])) ∨
    (opE (l.map Ce.cl) ps=0/\∃ E nr nc:Nat,nr=(yt (l.map Ce.cl) ps (dim - 1)).length/\nc=(yt (l.map Ce.cl) ps dim).length/\e = .returned (.agg #[.int .i64 nr,.int .i64 nc,.slice (some ⟨E,0,none⟩) (nr*nc) (nr*nc)])/\w.heap.size<=E/\E < w'.heap.size ∧
     EW w' E (nr*nc) (fun t=>bdE (canon (l.map Ce.cl)) (mhi (l.map Ce.cl) ps) (mlo (l.map Ce.cl) ps) dim (t / nc) (t % nc)))):=by
 obtain⟨a,len,cap,rfl⟩:=qg h.1;obtain⟨a1,len1,cap1,rfl⟩:=qg hp;obtain⟨W,hW⟩ : ∃ W,W=(w.alloc (.cells #[.slice a len cap] 26)).alloc (.cells #[.int .i64 0,.int .i64 0,.slice none 0 0] 44):=⟨_,rfl⟩
 have hB:Below w.heap.size w W:=by rw[hW];exact((Below.refl _ w).alloc (nlr _) _).alloc (by simp) _
 have hc:=q6s (.slice a len cap) (.slice a1 len1 cap1) l ps _ (h.q8 hB) (by omega) hok (hp.q8 hB) hpI;have HC:=lhd hc;have HB:=lhd hB;obtain⟨K0,hK0⟩ : ∃ K0,K0=l.map Ce.cl:=⟨_,rfl⟩
 have HL:=lhd (show K0.length<=200 by rw[hK0,List.length_map];exact hl);rw[<-hK0] at HC ⊢;clear hc hB h hl hok hp hpI hK0;go_enter Tryz.func54,Tryz.ntmps54;go_wp2_with fail;rw[<-hW];refine HC.out.mono ?_;rintro e w1 ⟨hB1,hr⟩;have HB1:=lhd (HB.out.trans (hB1.mono HB.out.size));have m0:W.cell? ⟨w.heap.size+1,0,none⟩=some (.int .i64 0):=by
  rw[hW];simp
 have m1:W.cell? ⟨w.heap.size+1,1,none⟩=some (.int .i64 0):=by
  rw[hW];simp
 have m2:W.cell? ⟨w.heap.size+1,2,none⟩=some (.slice none 0 0):=by
  rw[hW];simp
 have mz:∀ j,W.frozen? ⟨w.heap.size+1,j,none⟩=false:=fun j=>by
  rw[hW];simp
 have hWl:w.heap.size+1 < W.heap.size:=by rw[hW];simp
 obtain⟨ob,hob⟩ : ∃ ob,ob=w.heap.size+1:=⟨_,rfl⟩
 rw[<-hob] at m0 m1 m2 mz hWl ⊢;have hobw:w.heap.size<=ob:=by omega
 have q0:=Cx.q8 hB1 m0;have q1:=Cx.q8 hB1 m1;have q2:=Cx.q8 hB1 m2;have z0:=qv hB1 hWl (mz 0);have z1:=qv hB1 hWl (mz 1);have z2:=qv hB1 hWl (mz 2);have HM:=lhd (aiq q0 (aiq q1 (aiq q2 (aiq z0 (aiq z1 (aiq z2 (aiq hobw (Nat.lt_of_lt_of_le hWl hB1.size))))))));clear m0 m1 m2 mz hWl hob hB1 hW hobw;rcases hr with ⟨E,h1,rfl,h2⟩ | ⟨h2,h3,T,rfl,h4⟩
 ·have hb:(E != 0)=true:=by simpa using h1
  have H:=lhd (aiq h1 h2);clear h1 h2;go_wp2_with fail;obtain⟨q0,q1,q2,z0,z1,z2,hobw,hobl⟩:=HM.out;obtain⟨f0,f1,f2⟩:=qks q0 q1 q2 (.int .i64 0) (.int .i64 0) (.slice none 0 0);refine bodyPost_ret (v:=.agg #[.int .i64 0,.int .i64 0,.slice none 0 0]) (by simp[results,Tryz.results54,go_sem,f0,f1,f2]) rfl ⟨((HB1.out.setCell hobw _).setCell hobw _).setCell hobw _,.inl ⟨by rw[H.out.2];exact H.out.1,rfl⟩⟩
 obtain⟨BS,BH,BL,nb2,a2,n,c,mm,hF,hT1,hT2,hT3,hT4⟩:=h4.fm h3;have hKl:(canon K0).length<=200:=by rw[q0z];exact HL.out
 have hrowsX:yt K0 ps (dim - 1)=q27 (canon K0) (mhi K0 ps) (mlo K0 ps) (dim - 1):=by unfold yt;rw[if_pos h2]
 have hcolsX:yt K0 ps dim=q27 (canon K0) (mhi K0 ps) (mlo K0 ps) dim:=by unfold yt;rw[if_pos h2]
 obtain⟨K,hK⟩ : ∃ K,K=canon K0:=⟨_,rfl⟩
 obtain⟨hi,hhi⟩ : ∃ hi,hi=mhi K0 ps:=⟨_,rfl⟩
 obtain⟨lo,hlo⟩ : ∃ lo,lo=mlo K0 ps:=⟨_,rfl⟩
 rw[<-hK,<-hhi,<-hlo] at hF hrowsX hcolsX;have HEQ:=lhd (aiq hK (aiq hhi hlo));rw[<-hK] at hKl;obtain⟨rows,hrows⟩ : ∃ rows,rows=q27 K hi lo (dim - 1):=⟨_,rfl⟩
 obtain⟨cols,hcols⟩ : ∃ cols,cols=q27 K hi lo dim:=⟨_,rfl⟩
 rw[<-hrows] at hrowsX;rw[<-hcols] at hcolsX;obtain⟨nr,hnr⟩ : ∃ nr,nr=rows.length:=⟨_,rfl⟩
 obtain⟨nc,hnc⟩ : ∃ nc,nc=cols.length:=⟨_,rfl⟩
 have hnr2:nr<=200:=by rw[hnr,hrows];exact Nat.le_trans (q8j hF.good _ _ _) hKl
 have hnc2:nc<=200:=by rw[hnc,hcols];exact Nat.le_trans (q8j hF.good _ _ _) hKl
 have hrpw:rows.Pairwise (· < ·):=by rw[hrows];exact qp5 hF.good _
 have H:=lhd (aiq h2 (aiq hF (aiq hrows (aiq hcols (aiq hnr (aiq hnc hrpw))))));have HX:=lhd (aiq hrowsX (aiq hcolsX hKl));have g1:((nr:Int) > 200)=False:=by simp;omega
 have g2:((nc:Int) > 200)=False:=by simp;omega
 clear h2 h3 h4 hF hT1 hT2 hT3 hT4 q0 q1 q2 z0 z1 z2 hK hhi hlo hrows hcols hnr hnc hrpw hrowsX hcolsX hKl;go_wp2_with fail;refine(qof H.out.2.1 (dim - 1)).mono ?_;rintro e w2 ⟨r2,rfl,row2,hb2⟩;rw[<-H.out.2.2.1,<-H.out.2.2.2.2.1] at row2;obtain⟨v2,n2',c2,rfl⟩:=qg (Sl.qc row2);have hF2:=H.out.2.1.q8 hb2;have HR:=lhd (aiq row2 (aiq hb2 hF2));clear row2 hb2 hF2;go_wp2_with fail;refine(qof HR.out.2.2 dim).mono ?_;rintro e w3 ⟨r3,rfl,row3,hb3⟩;rw[<-H.out.2.2.2.1,<-H.out.2.2.2.2.2.1] at row3;obtain⟨v3,n3',c3,rfl⟩:=qg (Sl.qc row3);have e2:n2'=nr:=by
  obtain⟨_,_,_,he,_,_,h3,_⟩:=(Sl.qc HR.out.1);cases he;rw[xl,<-H.out.2.2.2.2.1] at h3;omega
 have e3:n3'=nc:=by
  obtain⟨_,_,_,he,_,_,h3,_⟩:=(Sl.qc row3);cases he;rw[xl,<-H.out.2.2.2.2.2.1] at h3;omega
 subst e2 e3;have hrl:=Sl.qc row3;have hF3:=HR.out.2.2.q8 hb3;have HS:=lhd (aiq ((Sl.qc HR.out.1).q8 hb3) (aiq hrl (aiq hb3 hF3)));have hB3w:Below w.heap.size w w3:=HB1.out.trans ((HR.out.2.1.trans (hb3.mono HR.out.2.1.size)).mono HB1.out.size);have HB3:=lhd hB3w;clear row3 hb3 hrl hF3 hB3w;go_wp2_with fail;refine(qqn n2' n3' w3 hnr2 hnc2).mono ?_;rintro e w4 ⟨E,rfl,hE1,hE2,hEW,hb4⟩;obtain⟨N,hN⟩ : ∃ N,N=n2'*n3':=⟨_,rfl⟩
 rw[<-hN] at hEW ⊢;have HE:=lhd (aiq hE1 (aiq hE2 (aiq hEW (aiq hb4 hN))));clear hE1 hE2 hEW hb4 hN;go_wp2_with fail;obtain⟨V,hV⟩ : ∃ V,V=w4.alloc (.cells #[.int .i64 n2',.int .i64 n3',.slice (some ⟨E,0,none⟩) N N] 44):=⟨_,rfl⟩
 rw[<-hV];obtain⟨pb,hpb⟩ : ∃ pb,pb=w4.heap.size:=⟨_,rfl⟩
 have u0:V.cell? ⟨pb,0,none⟩=some (.int .i64 n2'):=by rw[hV,hpb];exact qd w4 _ _ (0,0) 0
 have u1:V.cell? ⟨pb,1,none⟩=some (.int .i64 n3'):=by rw[hV,hpb];exact qd w4 _ _ (0,0) 1
 have u2:V.cell? ⟨pb,2,none⟩=some (.slice (some ⟨E,0,none⟩) N N):=by rw[hV,hpb];exact qd w4 _ _ (0,0) 2
 have hB4V:Below w4.heap.size w4 V:=by rw[hV];exact(Below.refl _ w4).alloc (nlr _) _
 rw[<-hpb];have hEp:E≠pb:=by have:=HE.out.2.1;omega
 have hEV:=HE.out.2.2.1.q8 hB4V HE.out.2.1;have hB3V:Below w3.heap.size w3 V:=HE.out.2.2.2.1.trans (hB4V.mono HE.out.2.2.2.1.size);have HV:=lhd (aiq u0 (aiq u1 (aiq u2 (aiq hEp (aiq hEV (aiq hB3V (Nat.lt_of_lt_of_le HE.out.2.1 hB4V.size)))))));clear u0 u1 u2 hB4V hEp hEV hB3V hV hpb;have far:∀ U,Gs (fun b=>b=E) V U->Below w3.heap.size w3 U/\U.cell? ⟨pb,0,none⟩=some (.int .i64 n2')/\U.cell? ⟨pb,1,none⟩=some (.int .i64 n3')/\U.cell? ⟨pb,2,none⟩=some (.slice (some ⟨E,0,none⟩) N N):=fun U hU=>by
  obtain⟨u0,u1,u2,hEp,_,hB3V,_⟩:=HV.out;have hb:¬ (pb=E):=fun e=>hEp e.symm
  exact⟨hB3V.trans (hU.below hB3V.size fun b h=>by rw[h];exact HE.out.1),hU.cell hb u0,hU.cell hb u1,hU.cell hb u2⟩
 have FAR:=lhd far;clear far;go_wp2_with fail;go_loopw [49] (fun i wr=>∃ k:Nat,i = .int .i64 k/\k<=n3'/\Hid (EW wr E N (fun t=>if t % n3' < k then bdE K hi lo dim (t / n3') (t % n3') else 0)/\Gs (fun b=>b=E) V wr)) (fun i _=>n3' - (vI i).toNat)
 case atStart=>exact⟨0,rfl,Nat.zero_le _,HV.out.2.2.2.2.1.congr fun t _=>by rw[if_neg (by omega)],Gs.refl _ _⟩
 case round =>
  obtain⟨k,rfl,hk,HR1⟩:=hrel;by_cases hlt:k < n3'
  ·obtain⟨wo,hwo⟩ : ∃ wo,wo=wr:=⟨_,rfl⟩
   subst hwo;obtain⟨_,_,_,he0,y1,y2,y3,y4,y5⟩:=HS.out.2.1;cases he0
   obtain⟨ad,rfl⟩ : ∃ ad,v3=some ad:=by
    cases v3 with
    | none=>have:=y4 rfl;omega
    | some ad=>exact⟨ad,rfl⟩
   have hcl:cols.length=n3':=H.out.2.2.2.2.2.1.symm;obtain⟨id,hid⟩ : ∃ id,cols[k]? = some id:=⟨_,List.getElem?_eq_getElem (by rw[hcl];exact hlt)⟩
   obtain⟨hB3o,pu0,pu1,pu2⟩:=FAR.out wo HR1.out.2;have d0:wo.cell? (ad.add k)=some (.int .i64 id):=Cx.q8 hB3o (y5 ad rfl _ _ (by simp[ints,hid]));have hFo:=HS.out.2.2.2.q8 hB3o;have t0:=hFo.fld.t0;have hidK:∃ y∈K,y.id=id/\y.dim=dim - 1+1:=by
    have:=List.mem_of_getElem? hid;rw[H.out.2.2.2.1] at this;obtain⟨⟨y,hy,h1,h2⟩,_⟩:=(qiu H.out.2.1.good).1 this;exact⟨y,hy,h1,by omega⟩
   have hidI:I64 id:=by
    obtain⟨y,hy,rfl,_⟩:=hidK;exact q4s H.out.2.1.cl H.out.2.1.ok (List.mem_map_of_mem hy)
   have HK:=lhd (aiq hid (aiq hB3o (aiq hFo (aiq hidK hidI))));clear y1 y2 y3 y4 y5 hcl hid hB3o hFo hidK hidI pu0 pu1 pu2;go_wp2_with fail;refine(qgv 1 _ (by decide) (by decide)).mono ?_;rintro e w5 ⟨rfl,hb5⟩;have t5:=Cx.q8 hb5 t0;have hx1:Sl (w5.alloc (.cells #[.int .i64 id,.bool false,.string (mg 1)] 71)) 3 (.slice (some ⟨w5.heap.size,0,none⟩) 1 1) (tv (ctm [(id,1)])):=q13 w5 71 3 [.int .i64 id,.bool (decide ((1:Int) < 0)),.string (mg 1)] 1 rfl (by unfold maxLen;omega);have HB5:=lhd hb5;clear t0 d0 hb5;unfold wv;go_upto_region 12 with fail;obtain⟨w6,hw6⟩ : ∃ w6,w6=w5.alloc (.cells #[.int .i64 id,.bool false,.string (mg 1)] 71):=⟨_,rfl⟩
   have t6:w6.cell? ⟨T,0,none⟩=some (.slice a2 n c):=by rw[hw6];exact qk t5 _
   have B6:Below wo.heap.size wo w6:=by rw[hw6];exact HB5.out.alloc HB5.out.size _
   rw[<-hw6] at hx1 ⊢;have hF6:=HK.out.2.2.1.q8 B6;have tok1:TOk 1 (ctm [(id,1)]):=LOk.tok fun p hp=>by
    have:p=(id,1):=by simpa using hp
    rw[this];exact⟨HK.out.2.2.2.2,q31 1 1 (by decide)⟩
   have hraw:(zk mm).length<=256000:=by rw[q2q,hF6.cl];exact q6v hF6.good
   have HX1:=lhd (aiq hx1 (aiq B6 (aiq hF6 (aiq tok1 hraw))));clear hx1 B6 hF6 tok1 hraw hw6 t5;go_wp2_with fail;refine(q5y _ mm _ (ctm [(id,1)]) 1 w6 HX1.out.2.2.1.fld.row HX1.out.2.2.1.ok HX1.out.1 HX1.out.2.2.2.1 (by rw[qz];have:=HX1.out.2.2.2.2;show _+1+_<=_;omega)).mono ?_;rintro e w7 ⟨r7,rfl,⟨Lb,cn7,cv7,ln7,row7⟩,hb7⟩;obtain⟨v7,n7,c7,rfl⟩:=qg (Sl.qc row7);have hG:=HX1.out.2.2.1.good;have hbd:co Lb=bdD K id 1:=funext fun d=>by
    rw[cv7,zv,vg,q2q,HX1.out.2.2.1.cl];rfl
   have in7:In0 K (co Lb):=by rw[hbd];exact qcu hG id 1
   have nb7:∀ d,nb (co Lb d)<=1:=fun d=>by rw[hbd];exact qod hG id d
   have tok7:TOk 1 (ctm Lb):=q9i HX1.out.2.2.1.cl HX1.out.2.2.1.ok cn7 in7 nb7;have l7:=q6u cn7 in7;have hKl2:=HX.out.2.2;have hF7:=HX1.out.2.2.1.q8 hb7;have HX2:=lhd (aiq row7 (aiq hb7 (aiq hbd (aiq tok7 (aiq hF7 (Nat.le_trans l7 hKl2))))));clear row7 hb7 hbd tok7 hF7 l7 hKl2 cn7 cv7 ln7 in7 nb7 hG t6;go_wp2_with fail;refine(qoe HX2.out.2.2.2.2.1 _ (ctm Lb) 1 (Sl.qc HX2.out.1) HX2.out.2.2.2.1 (by rw[qz];have:=HX2.out.2.2.2.2.2;omega)).mono ?_;rintro e w8 ⟨r8,L,rfl,cn8,cv8,row8,in8,nb8,hb8⟩;rw[zv,HX2.out.2.2.1] at cv8;obtain⟨v8,n8,c8,rfl⟩:=qg (Sl.qc row8);have e8:n8=L.length:=by
    obtain⟨_,_,_,he,_,_,h3,_⟩:=(Sl.qc row8);cases he;rw[z6,qz] at h3;omega
   have Bo8:Below wo.heap.size wo w8:=HX1.out.2.1.trans ((HX2.out.2.1.trans (hb8.mono HX2.out.2.1.size)).mono HX1.out.2.1.size);have hEo:E < wo.heap.size:=Nat.lt_of_lt_of_le HV.out.2.2.2.2.2.2 HR1.out.2.size;have hEW8:=HR1.out.1.q8 Bo8 hEo;have hG8:Gs (fun b=>b=E) V w8:=HR1.out.2.trans (Gs.xh Bo8);have hL8:=Sl.qc row8;have hn8:n8<=4000:=by rw[e8];exact Nat.le_trans (q6u cn8 in8) H.out.2.1.good.len
   have hrowne:∀ g,(Value.slice v8 n8 c8).ownBlock=some g->wo.heap.size<=g:=fun g hg=>Nat.le_trans (Nat.le_trans HX1.out.2.1.size HX2.out.2.1.size) (row8.lt g hg).1
   have HL8:=lhd (aiq cn8 (aiq cv8 (aiq hL8 (aiq nb8 (aiq hEW8 (aiq hG8 (aiq hEo (aiq e8 (aiq hrowne in8)))))))));clear cn8 cv8 row8 in8 nb8 hb8 Bo8 hEW8 hG8 hL8 hEo e8 hrowne;go_wp2_with fail;go_loopw [67] (fun i wr=>∃ q:Nat,i = .int .i64 q/\q<=n8/\Hid (EW wr E N (fun t=>if t % n3' < k then bdE K hi lo dim (t / n3') (t % n3') else if t % n3'=k then co (L.take q) (rows.getD (t / n3') 0) else 0)/\Gs (fun b=>b=E) w8 wr)) (fun i _=>n8 - (vI i).toNat)
   case atStart=>exact⟨0,rfl,Nat.zero_le _,HL8.out.2.2.2.2.1.congr fun t _=>by
    by_cases h1:t % n3' < k
    ·rw[if_pos h1,if_pos h1]
    ·rw[if_neg h1,if_neg h1,List.take_zero];split <;> rfl,Gs.refl _ _⟩
   case round =>
    obtain⟨q,rfl,hq,HR2⟩:=hrel;by_cases hql:q < n8
    ·obtain⟨_,_,_,he0,y1,y2,y3,y4,y5⟩:=HL8.out.2.2.1;cases he0
     obtain⟨ad8,rfl⟩ : ∃ ad,v8=some ad:=by
      cases v8 with
      | none=>have:=y4 rfl;omega
      | some ad=>exact⟨ad,rfl⟩
     obtain⟨⟨cc,x⟩,hcx⟩ : ∃ p,L[q]? = some p:=⟨_,List.getElem?_eq_getElem (by rw[<-HL8.out.2.2.2.2.2.2.2.1];exact hql)⟩
     obtain⟨e0,e1,e2⟩:=jd (ctm L) q ⟨cc,decide (x < 0),mg x⟩ (by unfold ctm;rw[List.getElem?_map,hcx];rfl);have hne8:¬ (ad8.block=E):=fun e=>by
      have h1:=HL8.out.2.2.2.2.2.2.1;have h2:=HL8.out.2.2.2.2.2.2.2.2.1 ad8.block (by cases ad8;rfl);omega
     have hblk:∀ j,(ad8.add j).block=ad8.block:=fun j=>by unfold Addr.add;split <;> rfl
     have hne8':¬ ((ad8.add (q*3)).block=E):=by rw[hblk];exact hne8
     have d0:wr.cell? (ad8.add (q*3))=some (.int .i64 cc):=HR2.out.2.cell hne8' (y5 ad8 rfl _ _ e0);have d1:wr.cell? ⟨(ad8.add (q*3)).block,(ad8.add (q*3)).off+1,none⟩=some (.bool (decide (x < 0))):=HR2.out.2.cell hne8' (by rw[qi _ _ _ (by omega)];exact y5 ad8 rfl _ _ e1);have d2:wr.cell? ⟨(ad8.add (q*3)).block,(ad8.add (q*3)).off+2,none⟩=some (.string (mg x)):=HR2.out.2.cell hne8' (by rw[qi _ _ _ (by omega)];exact y5 ad8 rfl _ _ e2);have HCX:=lhd hcx;clear y1 y2 y3 y4 y5 e0 e1 e2 hne8 hblk hne8' hcx;have hGV:Gs (fun b=>b=E) V wr:=HL8.out.2.2.2.2.2.1.trans HR2.out.2;obtain⟨hB3r,_,_,o2r⟩:=FAR.out wr hGV;have hEr:E < wr.heap.size:=Nat.lt_of_lt_of_le HV.out.2.2.2.2.2.2 hGV.size;obtain⟨wm,hwm⟩ : ∃ wm,wm=wr.alloc (.cells #[.int .i64 cc,.bool (decide (x < 0)),.string (mg x)] 71):=⟨_,rfl⟩
     obtain⟨mp,hmp⟩ : ∃ mp,mp=wr.heap.size:=⟨_,rfl⟩
     have m0:wm.cell? ⟨mp,0,none⟩=some (.int .i64 cc):=by rw[hwm,hmp];exact qd wr _ _ (0,0) 0
     have m1:wm.cell? ⟨mp,1,none⟩=some (.bool (decide (x < 0))):=by rw[hwm,hmp];exact qd wr _ _ (0,0) 1
     have m2:wm.cell? ⟨mp,2,none⟩=some (.string (mg x)):=by rw[hwm,hmp];exact qd wr _ _ (0,0) 2
     have hgm:Below wr.heap.size wr wm:=by rw[hwm];exact(Below.refl _ wr).alloc (nlr _) _
     have o2:=Cx.q8 hgm o2r;have hrowsm:=(HS.out.1.q8 hB3r).q8 hgm;have hccr:cc∈rows:=by
      rw[H.out.2.2.1];refine qgi9 H.out.2.1.good H.out.2.1.mtc H.out.2.1.ac HK.out.2.2.2.1 ?_;rw[<-HL8.out.2.1];have hm:=List.mem_of_getElem? HCX.out;have:=zl HL8.out.1.1 hm;have h2:=HL8.out.1.2 _ hm;intro e;exact h2 (this.symm.trans e)
     obtain⟨i0,hi0l,hi0e⟩:=List.getElem_of_mem hccr;have hi0:rows[i0]? = some cc:=by rw[List.getElem?_eq_getElem hi0l,hi0e]
     have hi0n:i0 < n2':=by rw[H.out.2.2.2.2.1];exact hi0l
     obtain⟨ix,hix⟩ : ∃ ix:Nat,ix=i0*n3'+k:=⟨_,rfl⟩
     have hixN:ix < N:=by
      rw[hix,HE.out.2.2.2.2];have h1:(i0+1)*n3'<=n2'*n3':=Nat.mul_le_mul_right _ hi0n;rw[Nat.add_mul] at h1;omega
     have hmul:(i0:Int)*(n3':Int)<=40000/\0<=(i0:Int)*(n3':Int):=by
      have h1:i0*n3'<=200*200:=Nat.mul_le_mul (by omega) hnc2;rw[<-Int.natCast_mul];omega
     have hadd:(i0:Int)*(n3':Int)+(k:Int)=(ix:Int):=by rw[hix,Int.natCast_add,Int.natCast_mul]
     have hEm:=HR2.out.1.q8 hgm hEr;have hE:∀ w',Below wm.heap.size wm w'->Bx' w' E ix (if ix % n3' < k then bdE K hi lo dim (ix / n3') (ix % n3') else if ix % n3'=k then co (L.take q) (rows.getD (ix / n3') 0) else 0):=fun w' h=>hEm.q8 h (Nat.lt_of_lt_of_le hEr hgm.size) ix hixN
     obtain⟨od,hod⟩ : ∃ od,od=(if ix % n3' < k then bdE K hi lo dim (ix / n3') (ix % n3') else if ix % n3'=k then co (L.take q) (rows.getD (ix / n3') 0) else 0):=⟨_,rfl⟩
     rw[<-hod] at hE;have hrpw:=H.out.2.2.2.2.2.2;have HO:=lhd (aiq hi0 (aiq hix (aiq hixN (aiq hgm (aiq hEm (aiq hGV (aiq hE (aiq hmul (aiq hadd (aiq hrowsm hEr))))))))));clear hi0e hi0l hccr hod hB3r o2r hGV hgm hEm;go_upto_region 15 with fail;rw[<-hmp,<-hwm];clear hmp hwm hix hi0 hixN hE hmul hadd hrowsm hEr hrpw hi0n d0 d1 d2;refine qp4 fun KO hKO=>?_
     go_cut [71] from 72 to 84 (fun _ wx=>∃ w',Hid (Below wm.heap.size wm w')/\wx=(w'.setCell ⟨E,ix*2,none⟩ (.bool (decide (x < 0)))).setCell ⟨E,ix*2+1,none⟩ (.string (mg x)))
     case first =>
      rename_i J K2 hJ hK2;obtain⟨hi0,hix,hixN,hgm,hEm,hGV,hE,hmul,hadd,hrowsm,hEr⟩:=HO.out;have hrpw:=H.out.2.2.2.2.2.2;refine qbs9 rfl (fun i' v=>∀ x',([some (.pointer (some ⟨pb,2,none⟩)),some (.slice (some ⟨E,0,none⟩) N N),some (.slice v2 n2' c2),some (.pointer (some ⟨mp,0,none⟩)),some (.int .i64 cc),some (.int .i64 i0),some (.slice (some ad) n3' c3),some (.int .i64 n3'),some (.int .i64 ((i0:Int)*n3')),some (.int .i64 k),some (.int .i64 ix),some (.pointer (some ⟨mp,1,none⟩)),some (wv x),some (.pointer (some ⟨E,ix*2,none⟩))] : List (Option Value)).getD i' none=some x'->v=x') 14 15 88 rfl (by kernel_rfl) (by kernel_rfl) (by decide) (by kernel_rfl) (by kernel_rfl) (fun a w''=>K2 a w'') ?step ?store (fun a w'' h=>h)
      case step =>
       intro i' o ho hne a w' hw hd hbase hsz;have ht11:=hbase 11 (qu (by kernel_rfl));have ht9:=hbase 9 (qu (by kernel_rfl));have ht16:=hbase 16 (qu (by kernel_rfl));have ht10:=hbase 10 (qu (by kernel_rfl));have ht12:=hbase 12 (qu (by kernel_rfl))
       match i',ho,hd with
       | 0,ho,hd =>
        obtain rfl:=osi ho;exact⟨rfl,Option.some_ne_none _,q8b _ _ _ rfl _ ht11 _ (qdv _ _) ⟨_,rfl,fun _ h=>osi h,Below.refl _ _⟩⟩
       | 1,ho,hd =>
        obtain rfl:=osi ho;exact⟨rfl,Option.some_ne_none _,q8o _ _ rfl _ (hd 0 _ _ rfl rfl (by kernel_rfl) _ rfl) _ (qis _ _ _ _ _ (Cx.q8 hw o2)) ⟨_,rfl,fun _ h=>osi h,Below.refl _ _⟩⟩
       | 2,ho,hd =>
        obtain rfl:=osi ho;exact⟨rfl,Option.some_ne_none _,q1b _ (.inl rfl) ⟨_,rfl,fun _ h=>ht9.trans (osi h),Below.refl _ _⟩⟩
       | 3,ho,hd =>
        obtain rfl:=osi ho;exact⟨rfl,Option.some_ne_none _,q8b _ _ _ rfl _ ht16 _ (qep9 _ _) ⟨_,rfl,fun _ h=>osi h,Below.refl _ _⟩⟩
       | 4,ho,hd =>
        obtain rfl:=osi ho;exact⟨rfl,Option.some_ne_none _,q8o _ _ rfl _ (hd 3 _ _ rfl rfl (by kernel_rfl) _ rfl) _ (qe0 _ _ _ (Cx.q8 hw m0)) ⟨_,rfl,fun _ h=>osi h,Below.refl _ _⟩⟩
       | 5,ho,hd =>
        obtain rfl:=osi ho;have f0:a.tmps.getD 73 undef = .slice v2 n2' c2:=hd 2 _ _ rfl rfl (by kernel_rfl) _ rfl;have f1:a.tmps.getD 75 undef = .int .i64 cc:=hd 4 _ _ rfl rfl (by kernel_rfl) _ rfl;exact⟨rfl,Option.some_ne_none _,qdj _ _ _ rfl q76 #[.slice v2 n2' c2,.int .i64 cc] (by simp[Act.eval,f0,f1]) ((qps _ rows cc _ (hrowsm.q8 hw)).mono fun e w6 ⟨i,he,hf,hb⟩=>⟨_,he,_,rfl,fun _ h=>(congrArg (Value.int .i64) (qk3 hrpw hi0 hf)).trans (osi h),hb⟩)⟩
       | 6,ho,hd =>
        obtain rfl:=osi ho;exact⟨rfl,Option.some_ne_none _,q1b _ (.inl rfl) ⟨_,rfl,fun _ h=>ht10.trans (osi h),Below.refl _ _⟩⟩
       | 7,ho,hd =>
        obtain rfl:=osi ho;exact⟨rfl,Option.some_ne_none _,qi5 _ rfl Tryz.underlying22 _ n3' c3 (hd 6 _ _ rfl rfl (by kernel_rfl) _ rfl) ⟨_,rfl,fun _ h=>osi h,Below.refl _ _⟩⟩
       | 8,ho,hd =>
        obtain rfl:=osi ho;exact⟨rfl,Option.some_ne_none _,qnf _ _ _ _ _ rfl _ _ (hd 5 _ _ rfl rfl (by kernel_rfl) _ rfl) (hd 7 _ _ rfl rfl (by kernel_rfl) _ rfl) _ rfl (qk4 _ _ _ (IntWalk.i64_in _ (by omega))) ⟨_,rfl,fun _ h=>osi h,Below.refl _ _⟩⟩
       | 9,ho,hd =>
        obtain rfl:=osi ho;exact⟨rfl,Option.some_ne_none _,q1b _ (.inl rfl) ⟨_,rfl,fun _ h=>ht12.trans (osi h),Below.refl _ _⟩⟩
       | 10,ho,hd =>
        obtain rfl:=osi ho;exact⟨rfl,Option.some_ne_none _,qnf _ _ _ _ _ rfl _ _ (hd 8 _ _ rfl rfl (by kernel_rfl) _ rfl) (hd 9 _ _ rfl rfl (by kernel_rfl) _ rfl) _ rfl (qko _ _ _ (IntWalk.i64_in _ (by omega))) ⟨_,rfl,fun _ h=>(congrArg (Value.int .i64) hadd).trans (osi h),Below.refl _ _⟩⟩
       | 11,ho,hd =>
        obtain rfl:=osi ho;exact⟨rfl,Option.some_ne_none _,q8b _ _ _ rfl _ ht16 _ (qc2 _ _) ⟨_,rfl,fun _ h=>osi h,Below.refl _ _⟩⟩
       | 12,ho,hd =>
        obtain rfl:=osi ho;exact⟨rfl,Option.some_ne_none _,q8o _ _ rfl _ (hd 11 _ _ rfl rfl (by kernel_rfl) _ rfl) _ (qqx (Cx.q8 hw m1) (Cx.q8 hw m2)) ⟨_,rfl,fun _ h=>osi h,Below.refl _ _⟩⟩
       | 13,ho,hd =>
        obtain rfl:=osi ho;exact⟨rfl,Option.some_ne_none _,qc9 _ _ _ rfl _ _ (hd 1 _ _ rfl rfl (by kernel_rfl) _ rfl) (hd 10 _ _ rfl rfl (by kernel_rfl) _ rfl) _ (qjr _ _ _ _ _ hixN) ⟨_,rfl,fun _ h=>osi h,Below.refl _ _⟩⟩
       | 14,ho,hd=>exact absurd rfl hne
       | i'+15,ho,hd =>
        have:i'+15 < 15:=(Array.getElem?_eq_some_iff.1 ho).1;omega
      case store =>
       intro o ho a w' hsz hdf hw hf hbase;obtain rfl:=osi ho;have f0:a.tmps.getD 84 undef = .pointer (some ⟨E,ix*2,none⟩):=hf 13 _ _ rfl rfl _ rfl;have f1:a.tmps.getD 83 undef=wv x:=hf 12 _ _ rfl rfl _ rfl;refine⟨rfl,qhx _ _ _ rfl _ _ f0 f1 (qjs _ _ _ _ _ _ (hE _ hw).1 (hE _ hw).2.1 (hE _ hw).2.2.1 (hE _ hw).2.2.2) ?_⟩;refine hK2 _ _ (Met.intro (hJ _ _ ⟨a.tmps.getD 71 undef,a.tmps.getD 72 undef,a.tmps.getD 73 undef,a.tmps.getD 74 undef,a.tmps.getD 75 undef,a.tmps.getD 76 undef,a.tmps.getD 77 undef,a.tmps.getD 78 undef,a.tmps.getD 79 undef,a.tmps.getD 80 undef,a.tmps.getD 81 undef,a.tmps.getD 82 undef,a.tmps.getD 83 undef,a.tmps.getD 84 undef,⟨w',lhd hw,rfl⟩,(q8z hsz hdf hbase).trans ?_⟩));kernel_rfl
     case rest =>
      obtain⟨w',HWb,rfl⟩:=hcut;refine hKO _ _ ?_;go_wp2;go_roundw
      case measure=>simp[vI];omega
      case rel =>
       obtain⟨hi0,hix,hixN,hgm,hEm,hGV,hE,hmul,hadd,hrowsm,hEr⟩:=HO.out;have hEW':=((hEm.q8 HWb.out (Nat.lt_of_lt_of_le hEr hgm.size)).put ix x)
       refine⟨q+1,qh (by omega),by omega,(show Hid _ from hEW'.congr fun t ht=>?_),?_⟩
       ·rw[hix];exact qjx9 H.out.2.2.2.2.2.2 HL8.out.1 HCX.out hi0 hlt (bdE K hi lo dim) t (by rw[<-H.out.2.2.2.2.1,<-HE.out.2.2.2.2];exact ht)
       ·have hG2:=(HR2.out.2.trans (Gs.xh hgm)).trans (Gs.xh HWb.out);exact(hG2.setCell rfl _).setCell rfl _
    ·have hqe:q=n8:=by omega
     subst hqe;go_wp2_with fail;go_roundw
     case measure=>simp[vI];omega
     case rel =>
      refine⟨k+1,qh (by omega),by omega,(show Hid _ from HR2.out.1.congr fun t ht=>?_),HL8.out.2.2.2.2.2.1.trans HR2.out.2⟩;by_cases h1:t % n3' < k
      ·rw[if_pos h1,if_pos (by omega)]
      ·by_cases h2:t % n3'=k
       ·rw[if_neg h1,if_pos h2,if_pos (by omega),List.take_of_length_le (by rw[<-HL8.out.2.2.2.2.2.2.2.1];exact nlr _),HL8.out.2.1];unfold bdE;rw[h2,<-H.out.2.2.1,<-H.out.2.2.2.1,List.getD_eq_getElem?_getD (l:=cols),HK.out.1];rfl
       ·rw[if_neg h1,if_neg h2,if_neg (by omega)]
  ·have hke:k=n3':=by omega
   subst hke;obtain⟨hB3r,r0,r1,r2⟩:=FAR.out wr HR1.out.2;obtain⟨q0,q1,q2,z0,z1,z2,hobw,hobl⟩:=HM.out;have hBo:Below w1.heap.size w1 wr:=(HR.out.2.1.trans ((HS.out.2.2.1.trans (hB3r.mono HS.out.2.2.1.size)).mono HR.out.2.1.size))
   have o0:=Cx.q8 hBo q0;have o1:=Cx.q8 hBo q1;have o2:=Cx.q8 hBo q2;have y0:=qv hBo hobl z0;have y1:=qv hBo hobl z1;have y2:=qv hBo hobl z2;have HFIN:=lhd (aiq hB3r (aiq hobw hBo));clear q0 q1 q2 z0 z1 z2 hobw hBo hB3r hobl;go_wp2_with fail;obtain⟨f0,f1,f2⟩:=qks o0 o1 o2 (.int .i64 n2') (.int .i64 k) (.slice (some ⟨E,0,none⟩) N N);have hbw:Below w.heap.size w wr:=HB3.out.trans (HFIN.out.1.mono HB3.out.size);have hobE:¬ (E=ob):=fun e=>by
    have h1:=HM.out.2.2.2.2.2.2.2;have h2:=HR.out.2.1.size;have h3:=HS.out.2.2.1.size;have h4:=HE.out.1;omega
   have hEr:E < wr.heap.size:=Nat.lt_of_lt_of_le HV.out.2.2.2.2.2.2 HR1.out.2.size;refine bodyPost_ret (v:=.agg #[.int .i64 n2',.int .i64 k,.slice (some ⟨E,0,none⟩) N N]) (by simp[results,Tryz.results54,go_sem,f0,f1,f2]) rfl ⟨((hbw.setCell HFIN.out.2.1 _).setCell HFIN.out.2.1 _).setCell HFIN.out.2.1 _,.inr ⟨H.out.1,E,n2',k,?_,?_,?_,?_,?_,?_⟩⟩
   ·rw[HX.out.1];exact H.out.2.2.2.2.1
   ·rw[HX.out.2.1];exact H.out.2.2.2.2.2.1
   ·rw[HE.out.2.2.2.2]
   ·exact Nat.le_trans HB3.out.size HE.out.1
   ·simpa [World.setCell] using hEr
   ·rw[<-HE.out.2.2.2.2];have hg:Gs (fun b=>b=ob) wr (((wr.setCell ⟨ob,0,none⟩ (.int .i64 n2')).setCell ⟨ob,1,none⟩ (.int .i64 k)).setCell ⟨ob,2,none⟩ (.slice (some ⟨E,0,none⟩) N N)):=Gs.setCell (p:=⟨ob,2,none⟩) (Gs.setCell (p:=⟨ob,1,none⟩) (Gs.setCell (p:=⟨ob,0,none⟩) (Gs.refl (fun b=>b=ob) wr) rfl _) rfl _) rfl _;refine(HR1.out.1.gs hg hobE hEr).congr fun t ht=>?_
    have hk0:0 < k:=by
     rcases Nat.eq_zero_or_pos k with h0 | h0
     ·rw[HE.out.2.2.2.2,h0,Nat.mul_zero] at ht;omega
     ·exact h0
    rw[if_pos (Nat.mod_lt _ hk0),<-HEQ.out.1,<-HEQ.out.2.1,<-HEQ.out.2.2]
end Go.Proofs.YtlhicnfeajejhaaGreatDoor
