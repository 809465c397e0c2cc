/- cocycleref13.Match. Conditions: none. cocyclelaw13.MorseMatch. Conditions: none. -/
import Derived.Test.YtlhicnfeajejhaaGreatDoorKQq
import Derived.Test.YtlhicnfeajejhaaGreatDoorKQs
set_option maxRecDepth 1000000
set_option maxHeartbeats 16000000
namespace Go.Cx
open Go.Proofs.YtlhicnfeajejhaaGreatDoor
section
variable {K : List Cl}
theorem Good.above_sgn (G : Good K) {c h : Int} (hh : h ∈ aboveK K c) : sgn K h c ≠ 0 := by
 unfold aboveK at hh
 obtain ⟨y, hy, rfl⟩ := List.mem_map.1 hh
 obtain ⟨h1, h2⟩ := List.mem_filter.1 hy
 rw [G.cells.2] at h1
 obtain ⟨s, hs, he⟩ := List.any_eq_true.1 h2
 exact G.side_sgn ⟨s, by rw [sidesK_mem G.asc h1]; exact hs, by simpa using he⟩
inductive Stq (K : List Cl) (ci : Int) (ab : List Int) (M : List (Int × Int)) (hi lo : Int → Int) : Nat → List (Int × Int) → (Int → Int) → (Int → Int) → Prop
 | no (j : Nat) (h : firstM K hi lo ci ab = firstM K hi lo ci (ab.drop j)) : Stq K ci ab M hi lo j M hi lo
 | yes (j : Nat) (c : Int) (h : firstM K hi lo ci ab = some c) (hc : c ≠ 0) : Stq K ci ab M hi lo j (M ++ [(ci, c)]) (pu hi ci c) (pu lo c ci)
theorem Stq.skip {ci h : Int} {ab : List Int} {M M' : List (Int × Int)} {hi lo hi' lo' : Int → Int} {j : Nat} (s : Stq K ci ab M hi lo j M' hi' lo') (hh : ab[j]? = some h) (hf : pdB hi' lo' ci = true ∨ pdB hi' lo' h = true) : Stq K ci ab M hi lo (j + 1) M' hi' lo' := by
 cases s with
 | no h1 =>
  refine .no _ (h1.trans ?_)
  obtain ⟨hl, he⟩ := List.getElem?_eq_some_iff.1 hh
  rw [List.drop_eq_getElem_cons hl, he]
  refine firstM_skip (.inl ?_)
  unfold fitB
  rcases hf with hf | hf <;> rw [hf] <;> simp
 | yes c h1 h2 => exact .yes _ c h1 h2
theorem Stq.pick (G : Good K) {ci h : Int} {ab : List Int} {M M' : List (Int × Int)} {hi lo hi' lo' : Int → Int} {j : Nat} (s : Stq K ci ab M hi lo j M' hi' lo') (hh : ab[j]? = some h) (hf : pdB hi' lo' ci = false) (hg : pdB hi' lo' h = false) (hsg : sgn K h ci ≠ 0) :
  M' = M ∧ hi' = hi ∧ lo' = lo ∧ fitB K hi lo ci h = true ∧ (Circ K (pu hi ci h) ci → Stq K ci ab M hi lo (j + 1) M' hi' lo') ∧ (¬ Circ K (pu hi ci h) ci → Stq K ci ab M hi lo (j + 1) (M ++ [(ci, h)]) (pu hi ci h) (pu lo h ci)) := by
 cases s with
 | no h1 =>
  have hfit : fitB K hi lo ci h = true := by unfold fitB; rw [hf, hg]; simpa using hsg
  obtain ⟨hl, he⟩ := List.getElem?_eq_some_iff.1 hh
  have hd : firstM K hi lo ci ab = firstM K hi lo ci (h :: ab.drop (j + 1)) := by rw [h1, List.drop_eq_getElem_cons hl, he]
  exact ⟨rfl, rfl, rfl, hfit, fun hc => .no _ (hd.trans (firstM_skip (.inr hc))), fun hc => .yes _ h (hd.trans (firstM_yes hfit hc)) (by have := (G.sgn_ne hsg).2.2; omega)⟩
 | yes c h1 h2 =>
  exfalso
  unfold pdB at hf
  rw [pu_at] at hf
  simp [h2] at hf
theorem Stq.done {ci : Int} {l : List Int} {M M' : List (Int × Int)} {hi lo hi' lo' : Int → Int} {j : Nat} (s : Stq K ci (aboveK K ci) M hi lo j M' hi' lo') (hj : (aboveK K ci).length ≤ j) : M ++ matK K hi lo (ci :: l) = M' ++ matK K hi' lo' l := by
 cases s with
 | no h1 =>
  rw [matK_none]
  rw [h1, List.drop_of_length_le hj]
  rfl
 | yes c h1 h2 =>
  rw [matK_some h1, List.append_assoc]
  rfl
end
section
open Go.RowKit
variable {P : Program} {Q : Exit → Act → World → Prop} {o : Oper} {a : Act}
theorem step_app2 (wr : World) {ops : Array Oper} {E : Prop} {K : Act → World → Prop} (hgd : o.guard = none) (s x : Operand) (t : TypeId)
  (ho : o.op = .call { callee := .builtin .append, args := #[s, x], argTypes := #[t, t] })
  (base : Nat) (e : TypeId) {z : Value} {size bytes : Nat} (hinfo : (P.info? e).map (fun i => (i.zero, i.size, i.bytes)) = some (some z, size, bytes)) (ht : P.underlying t = some (.slice e))
  (hzs : z.cells.size = size) (hsz : 0 < size) (hby : 0 < bytes)
  (v : Value) (n : Nat) (xs : List Value) (hs : a.eval s = v) (hown : wr.ownsRow base e size v n xs)
  (u : Value) (m : Nat) (ys : List Value) (hx : a.eval x = u) (hsrc : Sl wr size u ys) (hl : ys.length = m * size) (h1 : ∀ u ∈ ys, u.oneCell' = true)
  (hbytes : (n + m) * bytes ≤ 140737488355328) (hbase : base ≤ wr.heap.size)
  (h : ∀ v' w', w'.ownsRow base e size v' (n + m) (xs ++ ys) → wr.grownBy w' v.ownBlock → Below base wr w' → K (a.put o.dst v') w') :
  if Region.wanted o (yielded ops a.tmps) = true then Oper.wp P o a wr K Q else E := by
 have hw : Region.wanted o (yielded ops a.tmps) = true := by simp [Region.wanted, hgd]
 rw [if_pos hw]
 exact Go.Proofs.YtlhicnfeajejhaaGreatDoor.do_append2 s x t ho base e hinfo ht hzs hsz hby v n xs hs hown u m ys hx hsrc hl h1 hbytes hbase h
end
end Go.Cx
namespace Go.Proofs.YtlhicnfeajejhaaGreatDoor
open Go.RowKit Go.Cx
attribute [local go_sem ↓] Go.wp_at_zero Go.wp_at_succ
theorem sl_grown {w w' : World} {st g n c : Nat} {xs : List Value} {row : Option Nat} (h : Sl w st (.slice (some ⟨g, 0, none⟩) n c) xs) (hg : w.grownBy w' row) (hne : row ≠ some g) : Sl w' st (.slice (some ⟨g, 0, none⟩) n c) xs := by
 obtain ⟨h1, h2, h3, h4, h5⟩ := h.open
 refine ⟨_, n, c, rfl, h1, h2, h3, (fun e => by cases e), fun ad ha j u hj => ?_⟩
 obtain rfl := osi ha
 have := h5 ⟨g, 0, none⟩ rfl j u hj
 rw [Addr.add_lit] at this ⊢
 exact grown_keep hg this fun k hk e => hne (by rw [hk]; exact congrArg some e.symm)
structure Rst (w1 wx : World) (K : List Cl) (k : Nat) (so : Value) (hi lo : Int → Int) (M : List (Int × Int)) : Prop where
 row : wx.ownsRow w1.heap.size 50 2 so M.length (pv M)
 eq : matK K zz zz (K.map Cl.id) = M ++ matK K hi lo ((K.map Cl.id).drop k)
 put : putM K zz zz M = some (hi, lo)
 ac : ∀ a, ¬ Circ K hi a
 bl : Below w1.heap.size w1 wx
theorem rfMatch (v : Value) (l : List Ce) (w : World) (h : SlC w v l) (hl : l.length ≤ 4000) (hsl : ∀ x ∈ l, x.s.length ≤ 1099511627776) (G : Cx.Good (l.map Ce.cl)) (hc : chk (l.map Ce.cl) = (0, 0)) :
  Calls Tryz.prog 42 #[.agg #[v]] w fun e w' => ∃ r, e = .returned r ∧ w'.ownsRow w.heap.size 50 2 r (matX (l.map Ce.cl)).length (pv (matX (l.map Ce.cl))) ∧ Below w.heap.size w w' := by
 obtain ⟨a, n, cap, rfl⟩ := sl_shape h.1
 have hlen : l.length = n := by
  obtain ⟨_, _, h3, _⟩ := h.1.open
  rw [cat_len Ce.enc_len] at h3; omega
 obtain ⟨W, hW⟩ : ∃ W : World, W = w.alloc (.cells #[.slice a n cap] 26) := ⟨_, rfl⟩
 have hB : Below w.heap.size w W := by rw [hW]; exact (Below.refl _ w).alloc (nlr _) _
 have b0 : Bv W w.heap.size (.slice a n cap) := by rw [hW]; exact Bv.new w _ _
 have hck := smCheck _ l W (h.keep hB) hl hsl G hc
 obtain ⟨K, hK⟩ : ∃ K, K = l.map Ce.cl := ⟨_, rfl⟩
 have hX : matX K = matK K zz zz (K.map Cl.id) := by
  unfold matX
  rw [hK, hc, if_pos rfl, G.cells.1]
 have HH := lhd (aiq (h.keep hB) (aiq hsl (aiq hlen (aiq hB (aiq b0 (aiq hck hK))))))
 have HG := lhd (aiq (show Cx.Good K from hK ▸ G) hX)
 have hn : n ≤ 4000 := by omega
 rw [← hK]
 have HWq := lhd hW
 clear h hsl G hc hlen hB b0 hl hck hK hX hW
 go_enter Tryz.func42, Tryz.ntmps42
 go_wp2_with fail
 rw [← HWq.out]
 refine HH.out.2.2.2.2.2.1.mono ?_
 rintro e w1 ⟨rfl, hb1⟩
 have hc1 := HH.out.1.keep hb1
 have b1 := HH.out.2.2.2.2.1.keep hb1
 have c1 := b1.1
 have f1 := b1.2
 have hcn := smCanon _ l w1 hc1 (by have := HH.out.2.2.1; omega) HH.out.2.1
 have H1 := lhd (aiq hb1 (aiq b1 hcn))
 clear hb1 hc1 b1 hcn
 go_wp2_with fail
 refine H1.out.2.2.mono ?_
 rintro e w2 ⟨r, C, rfl, hC, hR, hb2⟩
 rw [← HH.out.2.2.2.2.2.2, ordK_good HG.out.1] at hC
 obtain ⟨ra, rc, hre⟩ := ownsRow_len hR.1
 subst hre
 have hCl : C.length = n := by
  have h1 := congrArg List.length hC
  rw [List.length_map, HH.out.2.2.2.2.2.2, List.length_map, HH.out.2.2.1] at h1; exact h1
 rw [hCl] at hR ⊢
 have b2 := H1.out.2.1.keep hb2
 have c2 := b2.1
 have f2 := b2.2
 have hz : w.heap.size < w1.heap.size := World.block_lt_of_cell? w1 _ c1
 obtain ⟨V, hV⟩ : ∃ V, V = w2.setCell ⟨w.heap.size, 0, none⟩ (.slice ra n rc) := ⟨_, rfl⟩
 have hRV : RowC V w1.heap.size (.slice ra n rc) C := by
  have h0 : RowC w2 w1.heap.size (.slice ra n rc) C := hR
  rw [hV]; exact h0.set (a := ⟨w.heap.size, 0, none⟩) hz _
 have bV : Bv V w.heap.size (.slice ra n rc) := by rw [hV]; exact b2.put _
 have hB0 : Below w.heap.size w w1 := HH.out.2.2.2.1.trans (H1.out.1.mono HH.out.2.2.2.1.size)
 have hBV : Below w.heap.size w V := by rw [hV]; exact (hB0.trans (hb2.mono hB0.size)).setCell (nlr _) _
 obtain ⟨_, hrc, _⟩ := (Sl.of_ownsRow hR.1).open
 unfold maxLen at hrc
 have cV := bV.1
 have HV := lhd (aiq hC (aiq hCl (aiq hRV.slc (aiq bV (aiq hBV hV)))))
 clear hC hCl hR hRV hBV hB0 hb2 b2 hz c1 f1 bV hV
 go_wp2_with fail
 rw [← HV.out.2.2.2.2.2]
 go_loopg [5, 6] n (fun g so si wx => ∃ (k : Nat) (hi lo : Int → Int) (M : List (Int × Int)), k + g = n ∧ si = .int .i64 k ∧ M.length ≤ k ∧ Hid (Rst V wx K k so hi lo M))
 case atStart => exact ⟨0, zz, zz, [], by omega, rfl, nlr _, (show Hid _ from ⟨World.ownsRow_nil _ _ _ _, by rw [List.drop_zero]; rfl, by rw [putM], fun a h => circ_low HG.out.1 h rfl, Below.refl _ _⟩)⟩
 case round =>
  obtain ⟨k, hi, lo, M, hkg, rfl, hMl, HS⟩ := hrel
  obtain ⟨sa, sc, hse⟩ := ownsRow_len HS.out.row
  subst hse
  obtain ⟨m, hm⟩ : ∃ m, m = M.length := ⟨_, rfl⟩
  rw [← hm] at hMl ⊢
  have HM := lhd hm
  have b3 := HV.out.2.2.2.1.keep HS.out.bl
  have c3 := b3.1
  clear hm
  cases gk with
  | zero =>
   have hk : ¬ ((k : Int) < (n : Int)) := by omega
   go_wp2_with fail
   go_ret
   have he : matX K = M := by
    rw [HG.out.2, HS.out.eq, List.drop_of_length_le (by rw [List.length_map, ← HV.out.1, List.length_map, HV.out.2.1]; omega)]
    show M ++ [] = M
    rw [List.append_nil]
   rw [he]
   refine ⟨_, rfl, ?_, HV.out.2.2.2.2.1.trans (HS.out.bl.mono HV.out.2.2.2.2.1.size)⟩
   have := ownsRow_mono HS.out.row HV.out.2.2.2.2.1.size
   rw [← HM.out] at this ⊢
   exact this
  | succ g =>
   have hkn : k < n := by omega
   have hkI : (k : Int) < n := by omega
   obtain ⟨x, hx⟩ : ∃ x, C[k]? = some x := ⟨_, List.getElem?_eq_getElem (by rw [HV.out.2.1]; exact hkn)⟩
   obtain ⟨_, _, _, h5, h6⟩ := HV.out.2.2.1.1.open
   obtain ⟨ad, hade⟩ : ∃ ad, ra = some ad := by
    cases ra with
    | none => have := h5 rfl; omega
    | some ad => exact ⟨ad, rfl⟩
   subst hade
   obtain ⟨e0, _⟩ := ce_get C k x hx
   obtain ⟨ci, hci⟩ : ∃ ci, ci = x.id := ⟨_, rfl⟩
   have hfx : ∀ U, Below V.heap.size V U → U.cell? ⟨w.heap.size, 0, none⟩ = some (.slice (some ad) n rc) ∧ U.cell? (ad.add (k * 3)) = some (.int .i64 ci) := fun U hU => by
    rw [hci]
    exact ⟨(HV.out.2.2.2.1.keep hU).1, Cx.keep hU (h6 ad rfl _ _ e0)⟩
   have hdrop : (K.map Cl.id).drop k = ci :: (K.map Cl.id).drop (k + 1) := by
    have hl : k < (K.map Cl.id).length := by rw [List.length_map, ← HV.out.1, List.length_map, HV.out.2.1]; exact hkn
    rw [List.drop_eq_getElem_cons hl]
    congr 1
    have : (K.map Cl.id)[k]? = some ci := by
     rw [← HV.out.1, List.map_map, List.getElem?_map, hx, hci]; rfl
    rw [List.getElem?_eq_getElem hl] at this
    exact osi this
   have hab : ∀ U, Below V.heap.size V U → Calls Tryz.prog 106 #[.agg #[.slice (some ad) n rc], .int .i64 ci] U fun e w' => ∃ r, e = .returned r ∧ w'.ownsRow U.heap.size 3 1 r (aboveK K ci).length (ints (aboveK K ci)) ∧ Below U.heap.size U w' := fun U hU => by
    have := smAbove _ C ci U (HV.out.2.2.1.keep hU) (by have := HV.out.2.1; omega) (fun x hx => by
     have h8 : x.cl ∈ K := by rw [← HV.out.1]; exact List.mem_map.2 ⟨x, hx, rfl⟩
     have := HG.out.1.few _ h8
     show x.cl.s.length ≤ _
     omega) (by rw [HV.out.1]; exact HG.out.1)
    rw [HV.out.1] at this
    exact this
   have B8 : Below V.heap.size V wr.drew := below_draws HS.out.bl 1
   have HAB := lhd hab
   have HFX := lhd hfx
   have HD := lhd hdrop
   clear hx h5 h6 e0 hci hfx hdrop hab b3 cV
   go_wp2_with fail
   go_region_held_law (fun U => U.cell? ⟨w.heap.size, 0, none⟩ = some (.slice (some ad) n rc) ∧ U.cell? (ad.add (k * 3)) = some (.int .i64 ci)) (first | exact HFX.out _ B8 | exact HFX.out _ B9 | fail)
    (first | (go_at_call 106; refine (HAB.out _ B8).mono ?_; rintro e w9 ⟨r9, rfl, row9, hb9⟩; obtain ⟨v9, c9, hre9⟩ := ownsRow_len row9; subst hre9; have B9 : Below V.heap.size V w9 := B8.trans (hb9.mono B8.size)))
   obtain ⟨ab, habe⟩ : ∃ ab, ab = aboveK K ci := ⟨_, rfl⟩
   rw [← habe] at row9
   obtain ⟨n9, hn9⟩ : ∃ n9, n9 = ab.length := ⟨_, rfl⟩
   rw [← habe, ← hn9]
   rw [← hn9] at row9
   have hab4 : n9 ≤ 4000 := by
    rw [hn9, habe]
    unfold aboveK
    rw [List.length_map, HG.out.1.cells.2]
    exact Nat.le_trans (List.length_filter_le _ _) HG.out.1.len
   have hsg : ∀ h ∈ ab, sgn K h ci ≠ 0 := fun h hh => HG.out.1.above_sgn (by rw [← habe]; exact hh)
   have hB9 : Below wr.heap.size wr w9 := (below_draws (Below.refl _ wr) 1).trans hb9
   have H9 := lhd (aiq B9 (aiq (Sl.of_ownsRow row9) (aiq habe (aiq hn9 (aiq hsg hB9)))))
   obtain ⟨hnc9, hc9, _⟩ := (Sl.of_ownsRow row9).open
   unfold maxLen at hc9
   clear row9 habe hn9 hsg hB9 hb9 B9 B8 HAB
   go_wp2_with fail
   go_loopg [5, 8] n9 (fun gi so si wx => ∃ (j : Nat) (M' : List (Int × Int)) (hi' lo' : Int → Int), j + gi = n9 ∧ si = .int .i64 j ∧ M'.length ≤ k + 1 ∧ Hid (Stq K ci ab M hi lo j M' hi' lo' ∧ wx.ownsRow V.heap.size 50 2 so M'.length (pv M') ∧ putM K zz zz M' = some (hi', lo') ∧ (∀ a, ¬ Circ K hi' a) ∧ Below w9.heap.size w9 wx))
   case atStart =>
    refine ⟨0, M, hi, lo, by omega, rfl, by have := HM.out; omega, (show Hid _ from ⟨.no 0 (by rw [List.drop_zero]), ?_, HS.out.put, HS.out.ac, Below.refl _ _⟩)⟩
    have := ownsRow_below HS.out.row H9.out.2.2.2.2.2
    rw [← HM.out] at this ⊢
    exact this
   case round =>
    obtain ⟨j, M', hi', lo', hjg, rfl, hMk, HI⟩ := hrel
    obtain ⟨oa, oc, hoe⟩ := ownsRow_len HI.out.2.1
    subst hoe
    have hWb : Below V.heap.size V wr := H9.out.1.trans (HI.out.2.2.2.2.mono H9.out.1.size)
    cases gk with
    | zero =>
     have hj : ¬ ((j : Int) < (n9 : Int)) := by omega
     have HWb := lhd hWb
     clear hWb
     go_wp2_with fail
     go_roundg g
     case measure => omega
     case rel =>
      refine ⟨k + 1, hi', lo', M', by omega, i64_eq (by omega), hMk, (show Hid _ from ⟨HI.out.2.1, ?_, HI.out.2.2.1, HI.out.2.2.2.1, HWb.out⟩)⟩
      have hs := HI.out.1
      rw [H9.out.2.2.1] at hs
      rw [HS.out.eq, HD.out]
      exact hs.done (by rw [← H9.out.2.2.1, ← H9.out.2.2.2.1]; omega)
    | succ gj =>
     have hjn : j < n9 := by omega
     obtain ⟨_, _, _, y4, y5⟩ := (H9.out.2.1.keep HI.out.2.2.2.2).open
     obtain ⟨ad9, hade9⟩ : ∃ ad, v9 = some ad := by
      cases v9 with
      | none => have := y4 rfl; omega
      | some ad => exact ⟨ad, rfl⟩
     subst hade9
     obtain ⟨h, hh⟩ : ∃ h, ab[j]? = some h := ⟨_, List.getElem?_eq_getElem (by rw [← H9.out.2.2.2.1]; exact hjn)⟩
     have dh : wr.cell? (ad9.add j) = some (.int .i64 h) := y5 ad9 rfl _ _ (by simp [ints, hh])
     obtain ⟨d0, d1⟩ := HFX.out wr hWb
     obtain ⟨m', hm'⟩ : ∃ m, m = M'.length := ⟨_, rfl⟩
     have hpd1 := rfPaired (.slice oa M'.length oc) M' ci wr (Sl.of_ownsRow HI.out.2.1) (by omega)
     rw [← hm'] at hpd1 hMk ⊢
     have HP := lhd (aiq hpd1 (aiq hh (aiq hm' hWb)))
     clear hpd1 hh hm' y4 y5 hWb
     go_wp2_with fail
     refine HP.out.1.mono ?_
     rintro e w10 ⟨q1, rfl, hq1, hb10⟩
     have hrow10 := ownsRow_below HI.out.2.1 hb10
     have hpd2 := rfPaired (.slice oa M'.length oc) M' h w10 (Sl.of_ownsRow hrow10) (by have := HP.out.2.2.1; omega)
     rw [← HP.out.2.2.1] at hpd2 hrow10
     replace dh := Cx.keep hb10 dh
     replace d0 := Cx.keep hb10 d0
     replace d1 := Cx.keep hb10 d1
     have HP2 := lhd (aiq hpd2 (aiq hq1 (aiq hb10 hrow10)))
     clear hpd2 hq1 hb10 hrow10
     go_wp2_with fail
     refine HP2.out.1.mono ?_
     rintro e w11 ⟨q2, rfl, hq2, hb11⟩
     have hB11 : Below wr.heap.size wr w11 := HP2.out.2.2.1.trans (hb11.mono HP2.out.2.2.1.size)
     replace dh := Cx.keep hb11 dh
     replace d0 := Cx.keep hb11 d0
     replace d1 := Cx.keep hb11 d1
     have hrow11 := ownsRow_below HP2.out.2.2.2 hb11
     have e1 : pdB hi' lo' ci = q1 := Bool.eq_iff_iff.2 ((pd_iff HG.out.1 HI.out.2.2.1 ci).trans HP2.out.2.1.symm)
     have e2 : pdB hi' lo' h = q2 := Bool.eq_iff_iff.2 ((pd_iff HG.out.1 HI.out.2.2.1 h).trans hq2.symm)
     have H11 := lhd (aiq e1 (aiq e2 (aiq hB11 hrow11)))
     clear e1 e2 hB11 hrow11 hq2 hb11
     cases q1 with
     | true =>
      clear dh d0 d1
      go_wp2_with fail
      go_roundg gj
      case measure => omega
      case rel =>
       refine ⟨j + 1, M', hi', lo', by omega, i64_eq (by omega), by have := HP.out.2.2.1; omega, (show Hid _ from ⟨HI.out.1.skip HP.out.2.1 (.inl H11.out.1), ?_, HI.out.2.2.1, HI.out.2.2.2.1, HI.out.2.2.2.2.trans (H11.out.2.2.1.mono HI.out.2.2.2.2.size)⟩)⟩
       have := H11.out.2.2.2
       rw [← HP.out.2.2.1]
       exact this
     | false =>
      cases q2 with
      | true =>
       clear dh d0 d1
       go_wp2_with fail
       go_roundg gj
       case measure => omega
       case rel =>
        refine ⟨j + 1, M', hi', lo', by omega, i64_eq (by omega), by have := HP.out.2.2.1; omega, (show Hid _ from ⟨HI.out.1.skip HP.out.2.1 (.inr H11.out.2.1), ?_, HI.out.2.2.1, HI.out.2.2.2.1, HI.out.2.2.2.2.trans (H11.out.2.2.1.mono HI.out.2.2.2.2.size)⟩)⟩
        have := H11.out.2.2.2
        rw [← HP.out.2.2.1]
        exact this
      | false =>
       go_upto_region 16 with fail
       have hso : ∀ U, Below w11.heap.size w11 U → Sl U 2 (.slice oa m' oc) (pv M') := fun U hU => by
        have := Sl.of_ownsRow (ownsRow_below H11.out.2.2.2 hU)
        exact this
       have hm4 : m' ≤ 4001 := by omega
       have hln : (pv M').length = m' * 2 := by rw [pv_len2, HP.out.2.2.1]
       have HSo := lhd hso
       have HLn := lhd hln
       have hA : Below w11.heap.size w11 ((w11.alloc (.cells #[] 50)).drew) := below_draws ((Below.refl _ w11).alloc (nlr _) _) 1
       have hBb : Below w11.heap.size w11 (((w11.alloc (.cells #[] 50)).alloc (.cells #[.int .i64 ci, .int .i64 h] 50)).drew) := below_draws (((Below.refl _ w11).alloc (nlr _) _).alloc (by simp) _) 1
       have hCb : Below w11.heap.size w11 (((w11.alloc (.cells #[.int .i64 ci, .int .i64 h] 50)).alloc (.cells #[] 50)).drew) := below_draws (((Below.refl _ w11).alloc (nlr _) _).alloc (by simp) _) 1
       have oA : ((w11.alloc (.cells #[] 50)).drew).ownsRow w11.heap.size 50 2 (.slice (some ⟨w11.heap.size, 0, none⟩) 0 0) 0 [] := World.ownsRow.drew (row_empty w11 50 2)
       have oB : (((w11.alloc (.cells #[] 50)).alloc (.cells #[.int .i64 ci, .int .i64 h] 50)).drew).ownsRow w11.heap.size 50 2 (.slice (some ⟨w11.heap.size, 0, none⟩) 0 0) 0 [] := World.ownsRow.drew ((row_empty w11 50 2).alloc _)
       have oC : (((w11.alloc (.cells #[.int .i64 ci, .int .i64 h] 50)).alloc (.cells #[] 50)).drew).ownsRow w11.heap.size 50 2 (.slice (some ⟨w11.heap.size + 1, 0, none⟩) 0 0) 0 [] := by
        have := row_empty (w11.alloc (.cells #[.int .i64 ci, .int .i64 h] 50)) 50 2
        rw [World.size_alloc] at this
        exact World.ownsRow.drew (ownsRow_mono this (by omega))
       have hSB : ∀ U, (((w11.alloc (.cells #[] 50)).alloc (.cells #[.int .i64 ci, .int .i64 h] 50)).drew).grownBy U (Value.slice (some ⟨w11.heap.size, 0, none⟩) 0 0).ownBlock → Sl U 2 (.slice (some ⟨w11.heap.size + 1, 0, none⟩) 1 1) [.int .i64 ci, .int .i64 h] := fun U hU => by
        have h1 := slOne (w11.alloc (.cells #[] 50)) 50 2 [.int .i64 ci, .int .i64 h] 1 rfl (by unfold maxLen; omega)
        rw [World.size_alloc] at h1
        exact sl_grown (h1.drew) hU (fun e => by have e : w11.heap.size = w11.heap.size + 1 := osi e; omega)
       have hSC : ∀ U, (((w11.alloc (.cells #[.int .i64 ci, .int .i64 h] 50)).alloc (.cells #[] 50)).drew).grownBy U (Value.slice (some ⟨w11.heap.size + 1, 0, none⟩) 0 0).ownBlock → Sl U 2 (.slice (some ⟨w11.heap.size, 0, none⟩) 1 1) [.int .i64 ci, .int .i64 h] := fun U hU => by
        have h1 := (slOne w11 50 2 [.int .i64 ci, .int .i64 h] 1 rfl (by unfold maxLen; omega)).alloc (.cells #[] 50)
        exact sl_grown (h1.drew) hU (fun e => by have e : w11.heap.size + 1 = w11.heap.size := osi e; omega)
       have HSB := lhd hSB
       have HSC := lhd hSC
       have HA := lhd (aiq hA oA)
       have HBx := lhd (aiq hBb oB)
       have HCx := lhd (aiq hCb oC)
       clear hSB hSC hso hln hA hBb hCb oA oB oC
       go_region_held3 (fun U => U.cell? ⟨w.heap.size, 0, none⟩ = some (.slice (some ad) n rc) ∧ U.cell? (ad.add (k * 3)) = some (.int .i64 ci) ∧ U.cell? (ad9.add j) = some (.int .i64 h))
        (first | exact ⟨by assumption, by assumption, by assumption⟩ | exact ⟨keepAl (by assumption) _, keepAl (by assumption) _, keepAl (by assumption) _⟩ | exact ⟨keepAl (keepAl (by assumption) _) _, keepAl (keepAl (by assumption) _) _, keepAl (keepAl (by assumption) _) _⟩)
        (first
         |((refine step_app2 ((w11.alloc (.cells #[] 50)).drew) rfl _ _ 48 rfl w11.heap.size 50 infoPair Tryz.underlying48 rfl (by decide) (by decide) (.slice (some ⟨w11.heap.size, 0, none⟩) 0 0) 0 [] (by simp [Act.eval]) HA.out.2 (.slice oa m' oc) m' (pv M') (by simp [Act.eval]) (HSo.out _ HA.out.1) HLn.out (pv_ones _) (by omega) HA.out.1.size ?_; intro rA wA hr2 hg2 hb2; have hBx := HA.out.1.trans hb2; have k0 := Cx.keep hBx d0; have k1 := Cx.keep hBx d1; have kh := Cx.keep hBx dh; have RA := lhd (aiq hr2 (aiq hBx trivial)); clear hr2 hg2 hb2 hBx))
         |((refine step_app2 (((w11.alloc (.cells #[] 50)).alloc (.cells #[.int .i64 ci, .int .i64 h] 50)).drew) rfl _ _ 48 rfl w11.heap.size 50 infoPair Tryz.underlying48 rfl (by decide) (by decide) (.slice (some ⟨w11.heap.size, 0, none⟩) 0 0) 0 [] (by simp [Act.eval]) HBx.out.2 (.slice oa m' oc) m' (pv M') (by simp [Act.eval]) (HSo.out _ HBx.out.1) HLn.out (pv_ones _) (by omega) HBx.out.1.size ?_; intro rB wB hr2 hg2 hb2; have hBx := HBx.out.1.trans hb2; have k0 := Cx.keep hBx d0; have k1 := Cx.keep hBx d1; have kh := Cx.keep hBx dh; have RB := lhd (aiq hr2 (aiq hBx hg2)); clear hr2 hg2 hb2 hBx))
         |((refine step_app2 (((w11.alloc (.cells #[.int .i64 ci, .int .i64 h] 50)).alloc (.cells #[] 50)).drew) rfl _ _ 48 rfl w11.heap.size 50 infoPair Tryz.underlying48 rfl (by decide) (by decide) (.slice (some ⟨w11.heap.size + 1, 0, none⟩) 0 0) 0 [] (by simp [Act.eval]) HCx.out.2 (.slice oa m' oc) m' (pv M') (by simp [Act.eval]) (HSo.out _ HCx.out.1) HLn.out (pv_ones _) (by omega) HCx.out.1.size ?_; intro rC wC hr2 hg2 hb2; have hBx := HCx.out.1.trans hb2; have k0 := Cx.keep hBx d0; have k1 := Cx.keep hBx d1; have kh := Cx.keep hBx dh; have RC := lhd (aiq hr2 (aiq hBx hg2)); clear hr2 hg2 hb2 hBx))
         |((refine step_app2 (wA.alloc (.cells #[.int .i64 ci, .int .i64 h] 50)) rfl _ _ 48 rfl w11.heap.size 50 infoPair Tryz.underlying48 rfl (by decide) (by decide) rA (0 + m') ([] ++ pv M') (by simp [Act.eval]) (RA.out.1.alloc _) (.slice (some ⟨wA.heap.size, 0, none⟩) 1 1) 1 [.int .i64 ci, .int .i64 h] (by simp [Act.eval]) (slOne wA 50 2 [.int .i64 ci, .int .i64 h] 1 rfl (by unfold maxLen; omega)) rfl (onePair ci h) (by omega) ((RA.out.2.1).trans ((Below.refl _ wA).alloc RA.out.2.1.size _)).size ?_; intro r3 w13 hr3 hg3 hb3; have hBx := ((RA.out.2.1).trans ((Below.refl _ wA).alloc RA.out.2.1.size _)).trans hb3; have k0 := Cx.keep hBx d0; have k1 := Cx.keep hBx d1; have kh := Cx.keep hBx dh; have R3 := lhd (aiq hr3 hBx); clear hr3 hg3 hb3 hBx))
         |((refine step_app2 wB rfl _ _ 48 rfl w11.heap.size 50 infoPair Tryz.underlying48 rfl (by decide) (by decide) rB (0 + m') ([] ++ pv M') (by simp [Act.eval]) RB.out.1 (.slice (some ⟨w11.heap.size + 1, 0, none⟩) 1 1) 1 [.int .i64 ci, .int .i64 h] (by simp [Act.eval]) (HSB.out wB RB.out.2.2) rfl (onePair ci h) (by omega) (RB.out.2.1).size ?_; intro r3 w13 hr3 hg3 hb3; have hBx := (RB.out.2.1).trans hb3; have k0 := Cx.keep hBx d0; have k1 := Cx.keep hBx d1; have kh := Cx.keep hBx dh; have R3 := lhd (aiq hr3 hBx); clear hr3 hg3 hb3 hBx))
         |((refine step_app2 wC rfl _ _ 48 rfl w11.heap.size 50 infoPair Tryz.underlying48 rfl (by decide) (by decide) rC (0 + m') ([] ++ pv M') (by simp [Act.eval]) RC.out.1 (.slice (some ⟨w11.heap.size, 0, none⟩) 1 1) 1 [.int .i64 ci, .int .i64 h] (by simp [Act.eval]) (HSC.out wC RC.out.2.2) rfl (onePair ci h) (by omega) (RC.out.2.1).size ?_; intro r3 w13 hr3 hg3 hb3; have hBx := (RC.out.2.1).trans hb3; have k0 := Cx.keep hBx d0; have k1 := Cx.keep hBx d1; have kh := Cx.keep hBx dh; have R3 := lhd (aiq hr3 hBx); clear hr3 hg3 hb3 hBx)))
       all_goals
        have hsgn := H9.out.2.2.2.2.1 h (List.mem_of_getElem? HP.out.2.1)
        obtain ⟨p1, p2, p3, hfit, pc, pn⟩ := HI.out.1.pick HG.out.1 HP.out.2.1 H11.out.1 H11.out.2.1 hsgn
        have hput : putM K zz zz (M' ++ [(ci, h)]) = some (pu hi' ci h, pu lo' h ci) := by
         rw [putM_snoc, HI.out.2.2.1]
         show (if fitB K hi' lo' ci h = true then some _ else none) = _
         rw [if_pos (by rw [p2, p3]; exact hfit)]
        have hr4 : w13.ownsRow V.heap.size 50 2 r3 (m' + 1) (pv (M' ++ [(ci, h)])) := by
         have h1 := ownsRow_mono R3.out.1 (show V.heap.size ≤ w11.heap.size from Nat.le_trans HP.out.2.2.2.size H11.out.2.2.1.size)
         rw [show pv (M' ++ [(ci, h)]) = [] ++ pv M' ++ [.int .i64 ci, .int .i64 h] by rw [pv_app]; rfl]
         exact row_n h1 (by omega)
        obtain ⟨a3, c3, hre3⟩ := ownsRow_len hr4
        subst hre3
        have hB13 : Below wr.heap.size wr w13 := H11.out.2.2.1.trans (R3.out.2.mono H11.out.2.2.1.size)
        have hV13 : Below V.heap.size V w13 := HP.out.2.2.2.trans (hB13.mono HP.out.2.2.2.size)
        have hround := rfRound (.slice (some ad) n rc) (.slice a3 (m' + 1) c3) C (M' ++ [(ci, h)]) w13 (HV.out.2.2.1.keep hV13) (by have := HV.out.2.1; omega) (fun x hx => by
         have h8 : x.cl ∈ K := by rw [← HV.out.1]; exact List.mem_map.2 ⟨x, hx, rfl⟩
         have := HG.out.1.few _ h8
         show x.cl.s.length ≤ _
         omega) (by rw [HV.out.1]; exact HG.out.1) (Sl.of_ownsRow hr4) (by rw [List.length_append]; show M'.length + 1 ≤ _; have := HP.out.2.2.1; omega)
        rw [HV.out.1] at hround
        have hri := rndB_iff HG.out.1 hput
        obtain ⟨b, hb⟩ : ∃ b, b = rndB K (M' ++ [(ci, h)]) := ⟨_, rfl⟩
        rw [← hb] at hround hri
        have HZ := lhd (aiq hround (aiq hri (aiq hput (aiq hr4 (aiq hB13 (aiq p2 (aiq pc (aiq pn (aiq p1 p3)))))))))
        have k13 := (HFX.out w13 hV13).1
        clear hround hri hput hr4 hB13 hV13 p1 p2 p3 hfit pc pn hsgn hb dh d0 d1 k1 kh
        go_wp2_with fail
        refine HZ.out.1.mono ?_
        rintro e w14 ⟨rfl, hb14⟩
        have HB14 := lhd (aiq (HZ.out.2.2.2.2.1.trans (hb14.mono HZ.out.2.2.2.2.1.size)) hb14)
        clear hb14 k13
        cases b with
        | true =>
         go_wp2_with fail
         go_roundg gj
         case measure => omega
         case rel =>
          obtain ⟨z1, z2, z3, z4, z5, z6, z7, z8, z9, z10⟩ := HZ.out
          have hcc : Circ K (pu hi ci h) ci := by
           obtain ⟨c, hc⟩ := z2.1 (by simp)
           rw [z6] at hc
           exact Classical.byContradiction fun hn => circ_put (by have := HI.out.2.2.2.1; rwa [z6] at this) hn c hc
          refine ⟨j + 1, M', hi', lo', by omega, i64_eq (by omega), by have := HP.out.2.2.1; omega, (show Hid _ from ⟨z7 hcc, ?_, HI.out.2.2.1, HI.out.2.2.2.1, HI.out.2.2.2.2.trans (HB14.out.1.mono HI.out.2.2.2.2.size)⟩)⟩
          have := ownsRow_below H11.out.2.2.2 (R3.out.2.trans (HB14.out.2.mono R3.out.2.size))
          rw [← HP.out.2.2.1]
          exact this
        | false =>
         go_wp2_with fail
         go_roundg gj
         case measure => omega
         case rel =>
          obtain ⟨z1, z2, z3, z4, z5, z6, z7, z8, z9, z10⟩ := HZ.out
          have hcc : ¬ Circ K (pu hi ci h) ci := fun hc => by
           have := z2.2 ⟨ci, by rw [z6]; exact hc⟩
           cases this
          refine ⟨j + 1, M' ++ [(ci, h)], pu hi' ci h, pu lo' h ci, by omega, i64_eq (by omega), ?_, (show Hid _ from ⟨?_, ?_, z3, ?_, HI.out.2.2.2.2.trans (HB14.out.1.mono HI.out.2.2.2.2.size)⟩)⟩
          ·have h1 := HM.out
           rw [z9, List.length_append]
           show M.length + 1 ≤ _
           omega
          ·rw [z9, z6, z10]
           exact z8 hcc
          ·have := ownsRow_below z4 HB14.out.2
           rw [List.length_append, ← HP.out.2.2.1]
           exact this
          ·refine circ_put HI.out.2.2.2.1 ?_
           rw [z6]; exact hcc
end Go.Proofs.YtlhicnfeajejhaaGreatDoor
namespace Go.Cx
open Go.Proofs.YtlhicnfeajejhaaGreatDoor
theorem mat_mem {K : List Cl} : ∀ (l : List Int) (hi lo : Int → Int), ∀ p ∈ matK K hi lo l, p.1 ∈ l ∧ p.2 ∈ aboveK K p.1
 | [], hi, lo, p, hp => by rw [matK] at hp; cases hp
 | c :: l, hi, lo, p, hp => by
  rw [matK] at hp
  cases hf : firstM K hi lo c (aboveK K c) with
  | none =>
   rw [hf] at hp
   obtain ⟨h1, h2⟩ := mat_mem l _ _ p hp
   exact ⟨List.mem_cons_of_mem _ h1, h2⟩
  | some h =>
   rw [hf] at hp
   rcases List.mem_cons.1 hp with rfl | hp
   ·exact ⟨by simp, List.mem_of_find?_eq_some hf⟩
   ·obtain ⟨h1, h2⟩ := mat_mem l _ _ p hp
    exact ⟨List.mem_cons_of_mem _ h1, h2⟩
theorem matX_mem {K : List Cl} (G : Good K) (hc : chk K = (0, 0)) : ∀ p ∈ matX K, p.1 ∈ K.map Cl.id ∧ p.2 ∈ K.map Cl.id := fun p hp => by
 unfold matX at hp
 rw [hc, if_pos rfl, G.cells.1] at hp
 obtain ⟨h1, h2⟩ := mat_mem _ _ _ p hp
 refine ⟨h1, ?_⟩
 unfold aboveK at h2
 obtain ⟨y, hy, e⟩ := List.mem_map.1 h2
 have hy := (List.mem_filter.1 hy).1
 rw [G.cells.2] at hy
 exact e ▸ List.mem_map_of_mem hy
end Go.Cx
namespace Go.Proofs.YtlhicnfeajejhaaGreatDoor
open Go.RowKit Go.Cx
attribute [local go_sem ↓] Go.wp_at_zero Go.wp_at_succ
theorem matX_I64 {K : List Cl} (G : Cx.Good K) (hc : chk K = (0, 0)) (hK : KOk K) : ∀ p ∈ matX K, I64 p.1 ∧ I64 p.2 := fun p hp => by
 obtain ⟨h1, h2⟩ := matX_mem G hc p hp
 have key : ∀ c ∈ K.map Cl.id, I64 c := fun c hc => by
  obtain ⟨x, hx, rfl⟩ := List.mem_map.1 hc
  exact (hK x hx).1.1
 exact ⟨key _ h1, key _ h2⟩
theorem shu_cok {K : List Cl} (hK : KOk K) {M : List Ce} (h : Shu K (M.map Ce.cl)) : COk M := fun y hy => by
 obtain ⟨x, hx, h1, h2, h3⟩ := shu_mem h (List.mem_map_of_mem (f := Ce.cl) hy)
 obtain ⟨⟨k1, k2⟩, k3, k4⟩ := hK x hx
 have h1 : y.id = x.id := h1
 have h2 : y.dim = x.dim := h2
 have h3 : y.s.Perm x.s := h3
 exact ⟨⟨h1 ▸ k1, h2 ▸ k2⟩, by rw [h3.length_eq]; exact k3, fun s hs => k4 s (h3.mem_iff.1 hs)⟩
theorem moMatchLaw (v0 : Value) (l : List Int) (y : Int) (w : World) (h0 : Sl w 1 v0 (ints l)) :
  Calls Tryz.prog 5 #[v0, .int .i64 y] w fun e w' => e = .returned (.bool true) ∧ Below w.heap.size w w' := by
 obtain ⟨a0, k0, c0, rfl⟩ := sl_shape h0
 have H := lhd h0
 clear h0
 go_enter Tryz.func5, Tryz.ntmps5
 go_wp2_with fail
 refine (moSanity _).mono ?_
 rintro e w1 ⟨rfl, hb1⟩
 have H1 := lhd hb1
 clear hb1
 go_wp2_with fail
 refine (smSimplices _ l _ (H.out.keep H1.out)).mono ?_
 rintro e w2 ⟨r, m, rfl, hm, hR, hb2⟩
 obtain ⟨ua, uc, hue⟩ := ownsRow_len hR.1
 subst hue
 have hB2 : Below w.heap.size w w2 := H1.out.trans (hb2.mono H1.out.size)
 obtain ⟨K, hK⟩ : ∃ K, K = simpN l := ⟨_, rfl⟩
 have hok := simpN_ok l
 have hG := good_simpN l
 have hchk := chk_simpN l
 rw [← hK] at hok hG hchk hm
 have hml : m.length ≤ 180 := by
  have := congrArg List.length hm
  rw [List.length_map] at this
  have := hok.2.2
  omega
 have HC := lhd (aiq hm (aiq hR.slc (aiq hB2 (aiq hok.1 (aiq hG (aiq hchk hml))))))
 clear hm hR hb2 hB2 hK hok hG hchk hml
 go_upto_region 3 with fail
 obtain ⟨W0, hW0⟩ : ∃ W0, W0 = w2.alloc (.cells #[.slice ua m.length uc] 26) := ⟨_, rfl⟩
 obtain ⟨q, hq⟩ : ∃ q, q = w2.heap.size := ⟨_, rfl⟩
 rw [← hW0, ← hq]
 have hb0 : Below w2.heap.size w2 W0 := by rw [hW0]; exact (Below.refl _ w2).alloc (nlr _) _
 have bq : Bv W0 q (.slice ua m.length uc) := by rw [hW0, hq]; exact Bv.new w2 _ _
 have cq := bq.1
 have hmK : ∀ x ∈ m, x.cl ∈ K := fun x hx => by rw [← HC.out.1]; exact List.mem_map_of_mem hx
 have hms : ∀ x ∈ m, x.s.length ≤ 19 := fun x hx => (HC.out.2.2.2.1 x.cl (hmK x hx)).2.1
 have H0 := lhd (aiq hb0 (aiq bq (aiq hms (HC.out.2.1.keep hb0))))
 clear hW0 hq hb0 bq hmK hms
 go_wp2_with fail
 refine (smShuffled _ m y W0 H0.out.2.2.2 (by have := HC.out.2.2.2.2.2.2; omega) (fun x hx => Nat.le_trans (H0.out.2.2.1 x hx) (by decide))).mono ?_
 rintro e w3 ⟨r3, M, rfl, hSh, hS3, hb3⟩
 rw [HC.out.1] at hSh
 obtain ⟨a3, n3, c3, rfl⟩ := sl_shape hS3.1
 have hM := HC.out.2.2.2.2.1.shu_mat hSh
 have hMl : M.length ≤ 1099511627776 := by
  have h1 := shu_len hSh
  have h2 := congrArg List.length HC.out.1
  rw [List.length_map] at h1 h2
  have := HC.out.2.2.2.2.2.2
  omega
 have hcall := moMatch _ M w3 hS3 hMl (shu_cok HC.out.2.2.2.1 hSh)
 rw [hM] at hcall
 have H3 := lhd (aiq hb3 hcall)
 clear hSh hS3 hb3 hM hMl hcall cq
 go_wp2_with fail
 refine H3.out.2.mono ?_
 rintro e w4 ⟨r4, rfl, hr4, hb4⟩
 obtain ⟨a4, c4, hre4⟩ := ownsRow_len hr4
 subst hre4
 have hB4 : Below W0.heap.size W0 w4 := H3.out.1.trans (hb4.mono H3.out.1.size)
 obtain ⟨mx, hmx⟩ : ∃ mx, mx = matX K := ⟨_, rfl⟩
 have h5 := rfMatch _ m w4 (H0.out.2.2.2.keep hB4) (by have := HC.out.2.2.2.2.2.2; omega) (fun x hx => Nat.le_trans (H0.out.2.2.1 x hx) (by decide)) (by rw [HC.out.1]; exact HC.out.2.2.2.2.1) (by rw [HC.out.1]; exact HC.out.2.2.2.2.2.1)
 rw [HC.out.1, ← hmx] at h5
 rw [← hmx] at hr4 ⊢
 have b4 := H0.out.2.1.keep hB4
 have d4 := b4.1
 have H4 := lhd (aiq hB4 (aiq (Sl.of_ownsRow hr4) (aiq h5 (aiq hmx b4))))
 clear hB4 hr4 hb4 h5 hmx b4
 go_wp2_with fail
 refine H4.out.2.2.1.mono ?_
 rintro e w5 ⟨r5, rfl, hr5, hb5⟩
 obtain ⟨a5, c5, hre5⟩ := ownsRow_len hr5
 subst hre5
 have h6 := kSameP (.slice a4 mx.length c4) (.slice a5 mx.length c5) mx w5 (H4.out.2.1.keep hb5) (Sl.of_ownsRow hr5)
 have H5 := lhd (aiq hb5 h6)
 clear hr5 hb5 h6
 go_wp2_with fail
 refine H5.out.2.mono ?_
 rintro e w6 ⟨r6, rfl, hr6, hb6⟩
 have hr6 : r6 = .bool true := hr6
 subst hr6
 have hB6 : Below w4.heap.size w4 w6 := H5.out.1.trans (hb6.mono H5.out.1.size)
 have hS6 : SlC w6 (.slice ua m.length uc) m := (H0.out.2.2.2.keep H4.out.1).keep hB6
 have h7 := moCheck _ (.slice a4 mx.length c4) m mx w6 hS6 (by have := HC.out.2.2.2.2.2.2; omega) (HC.out.2.2.2.1.cok HC.out.1) (H4.out.2.1.keep hB6) (by rw [H4.out.2.2.2.1]; exact matX_I64 HC.out.2.2.2.2.1 HC.out.2.2.2.2.2.1 HC.out.2.2.2.1)
 rw [HC.out.1, show opE K mx = 0 by rw [H4.out.2.2.2.1]; exact opE_mat HC.out.2.2.2.2.2.1] at h7
 have d6 := (H4.out.2.2.2.2.keep hB6).1
 have H6 := lhd (aiq hB6 h7)
 clear hb6 hB6 hS6 h7 d4
 go_wp2_with fail
 refine H6.out.2.mono ?_
 rintro e w7 ⟨rfl, hb7⟩
 have H7 := lhd hb7
 clear hb7 d6
 go_wp2_with fail
 go_ret
 refine ⟨rfl, ?_⟩
 have k1 : Below w2.heap.size w2 w4 := H0.out.1.trans (H4.out.1.mono H0.out.1.size)
 have k2 := k1.trans (H6.out.1.mono k1.size)
 have k3 := k2.trans (H7.out.mono k2.size)
 exact HC.out.2.2.1.trans (k3.mono HC.out.2.2.1.size)
end Go.Proofs.YtlhicnfeajejhaaGreatDoor
