/- slices.Index at ints. Package morse: Boundary. Conditions: none. -/
import Derived.Test.YtlhicnfeajejhaaGreatDoorKQm
set_option maxRecDepth 1000000
set_option maxHeartbeats 16000000
namespace Go.Proofs.YtlhicnfeajejhaaGreatDoor
open Go.RowKit Go.Cx
attribute [local go_sem ↓] Go.wp_at_zero Go.wp_at_succ
theorem slIndex (v : Value) (L : List Int) (x : Int) (w : World) (h : Sl w 1 v (ints L)) :
  Calls Tryz.prog 118 #[v, .int .i64 x] w fun e w' => ∃ i : Int, e = .returned (.int .i64 i) ∧ FirstAt L (fun y => y == x) i ∧ Below w.heap.size w w' := by
 obtain ⟨a, len, cap, rfl, h1, h2, h3, h4, h5⟩ := h
 unfold maxLen at h2
 rw [ints_len] at h3
 have hl : L.length = len := by omega
 clear h3
 have Hl := lhd hl; clear hl
 have H4 := lhd h4; clear h4
 have H5 := lhd h5; clear h5
 go_enter Tryz.func118, Tryz.ntmps118
 go_wp2
 go_loopw [5, 8] (fun _ i wr => ∃ k : Nat, i = .int .i64 k ∧ k ≤ len ∧ Hid (∀ t ∈ L.take k, (t == x) = false) ∧ Below w.heap.size w wr) (fun _ i _ => len - (vI i).toNat)
 case atStart => exact ⟨0, rfl, Nat.zero_le _, (show Hid _ from fun t ht => by simp at ht), Below.refl _ _⟩
 case round =>
  obtain ⟨k, rfl, hk, HN, hB⟩ := hrel
  by_cases hlt : k < len
  ·obtain ⟨ad, rfl⟩ : ∃ ad, a = some ad := by
    cases a with
    | none => have := H4.out rfl; omega
    | some ad => exact ⟨ad, rfl⟩
   obtain ⟨t, ht⟩ : ∃ t, L[k]? = some t := ⟨_, List.getElem?_eq_getElem (by rw [Hl.out]; exact hlt)⟩
   have e0 : (ints L)[k]? = some (.int .i64 t) := by simp [ints, ht]
   have d0 : wr.cell? (ad.add k) = some (.int .i64 t) := keep hB (H5.out ad rfl _ _ e0)
   have HT := lhd ht
   clear e0 ht
   by_cases hft : t = x
   ·have HFT := lhd (show (t == x) = true by simpa using hft)
    subst hft
    go_wp2
    go_ret
    exact ⟨k, rfl, .inr ⟨k, t, rfl, HT.out, HFT.out, HN.out⟩, hB⟩
   ·have hff : (x == t) = false := by simpa using fun e : x = t => hft e.symm
    have HFT := lhd (show (t == x) = false by simpa using hft)
    clear hft
    go_wp2
    go_roundw
    case measure => simp [vI]; omega
    case rel =>
     refine ⟨k + 1, i64_eq (by omega), by omega, (show Hid _ from fun u hu => ?_), hB⟩
     rw [List.take_add_one, HT.out] at hu
     rcases List.mem_append.1 hu with hu | hu
     ·exact HN.out u hu
     ·simp at hu; rw [hu]; exact HFT.out
  ·have hke : k = len := by omega
   have Hke := lhd hke; clear hke
   go_wp2
   go_ret
   refine ⟨-1, rfl, .inl ⟨rfl, ?_⟩, hB⟩
   have hn := HN.out
   rw [List.take_of_length_le (by rw [Hl.out, Hke.out]; exact nlr _)] at hn
   exact hn
end Go.Proofs.YtlhicnfeajejhaaGreatDoor
namespace Go.Cx
open Go.Proofs.YtlhicnfeajejhaaGreatDoor
noncomputable def bdE (K : List Cl) (hi lo : Int → Int) (d : Int) (i j : Nat) : Int := downF K hi lo (bdD K ((critK K hi lo d).getD j 0) 1) ((critK K hi lo (d - 1)).getD i 0)
theorem co_take {L : List (Int × Int)} {q : Nat} {p : Int × Int} (hq : L[q]? = some p) (d : Int) : co (L.take (q + 1)) d = co (L.take q) d + if p.1 = d then p.2 else 0 := by
 rw [List.take_add_one, hq]
 show co (L.take q ++ [p]) d = _
 rw [co_append]
 show _ + ((if p.1 = d then p.2 else 0) + 0) = _
 rw [Int.add_zero]
theorem co_before {L : List (Int × Int)} (hL : Cn L) {q : Nat} {p : Int × Int} (hq : L[q]? = some p) : co (L.take q) p.1 = 0 := by
 refine co_zero _ _ fun r hr e => ?_
 obtain ⟨i, hi, rfl⟩ := List.mem_take_iff_getElem.1 hr
 obtain ⟨hql, rfl⟩ := List.getElem?_eq_some_iff.1 hq
 have := List.pairwise_iff_getElem.1 hL.1 i q (by omega) hql (by omega)
 omega
theorem ent_step {rows : List Int} (hpw : rows.Pairwise (· < ·)) {L : List (Int × Int)} (hL : Cn L) {q i0 nc k : Nat} {c x : Int} (hq : L[q]? = some (c, x)) (hi0 : rows[i0]? = some c) (hk : k < nc) (M : Nat → Nat → Int) (t : Nat) (ht : t < rows.length * nc) :
  (if t = i0 * nc + k then x else if t % nc < k then M (t / nc) (t % nc) else if t % nc = k then co (L.take q) (rows.getD (t / nc) 0) else 0) = if t % nc < k then M (t / nc) (t % nc) else if t % nc = k then co (L.take (q + 1)) (rows.getD (t / nc) 0) else 0 := by
 by_cases h : t = i0 * nc + k
 ·have h1 : t % nc = k := by rw [h, Nat.add_comm, Nat.add_mul_mod_self_right, Nat.mod_eq_of_lt hk]
  have h2 : t / nc = i0 := by rw [h, Nat.add_comm, Nat.add_mul_div_right _ _ (by omega), Nat.div_eq_of_lt hk, Nat.zero_add]
  rw [if_pos h, h1, h2, if_neg (by omega), if_pos rfl, co_take hq, List.getD_eq_getElem?_getD, hi0]
  show x = co (L.take q) c + if c = c then x else 0
  rw [if_pos rfl, co_before hL hq, Int.zero_add]
 ·rw [if_neg h]
  by_cases h1 : t % nc < k
  ·rw [if_pos h1, if_pos h1]
  ·rw [if_neg h1, if_neg h1]
   by_cases h2 : t % nc = k
   ·rw [if_pos h2, if_pos h2, co_take hq, if_neg, Int.add_zero]
    intro he
    have he : c = rows.getD (t / nc) 0 := he
    have hlt : t / nc < rows.length := (Nat.div_lt_iff_lt_mul (by omega)).2 ht
    rw [List.getD_eq_getElem?_getD, List.getElem?_eq_getElem hlt] at he
    obtain ⟨hil, hie⟩ := List.getElem?_eq_some_iff.1 hi0
    have he : c = rows[t / nc] := he
    have hii : t / nc = i0 := by
     rcases Nat.lt_trichotomy (t / nc) i0 with hl | hl | hl
     ·have := List.pairwise_iff_getElem.1 hpw _ _ hlt hil hl; omega
     ·exact hl
     ·have := List.pairwise_iff_getElem.1 hpw _ _ hil hlt hl; omega
    have := Nat.div_add_mod t nc
    rw [hii, h2, Nat.mul_comm] at this
    exact h this.symm
   ·rw [if_neg h2, if_neg h2]
theorem first_is {rows : List Int} (hpw : rows.Pairwise (· < ·)) {c i : Int} {i0 : Nat} (hi0 : rows[i0]? = some c) (h : Go.Proofs.YtlhicnfeajejhaaGreatDoor.FirstAt rows (fun y => y == c) i) : i = i0 := by
 rcases h with ⟨_, h⟩ | ⟨k, t, rfl, hk, ht, _⟩
 ·have := h c (List.mem_of_getElem? hi0); simp at this
 ·have ht : t = c := by simpa using ht
  subst ht
  obtain ⟨a1, a2⟩ := List.getElem?_eq_some_iff.1 hk
  obtain ⟨b1, b2⟩ := List.getElem?_eq_some_iff.1 hi0
  rcases Nat.lt_trichotomy k i0 with hl | hl | hl
  ·have := List.pairwise_iff_getElem.1 hpw _ _ a1 b1 hl; omega
  ·rw [hl]
  ·have := List.pairwise_iff_getElem.1 hpw _ _ b1 a1 hl; omega
end Go.Cx
namespace Go.Proofs.YtlhicnfeajejhaaGreatDoor
open Go.Cx Go.RowKit
attribute [local go_sem ↓] Go.wp_at_zero Go.wp_at_succ
theorem crit_len {K : List Cl} (G : Cx.Good K) (hi lo : Int → Int) (d : Int) : (critK K hi lo d).length ≤ K.length := by
 unfold critK
 refine Nat.le_trans (List.length_filter_le _ _) ?_
 rw [G.ids, List.length_map]
 exact List.length_filter_le _ _
theorem _root_.Go.Cx.Gs.setCell {S : Nat → Prop} {w w' : World} (h : Gs S w w') {p : Addr} (hp : S p.block) (v : Value) : Gs S w (w'.setCell p v) :=
 h.trans ⟨rfl, rfl, rfl, by simp [World.setCell], fun k hk hn => Below.heap_setCell _ _ _ _ (fun e => hn (e ▸ hp))⟩
theorem EW.gs {S : Nat → Prop} {w w' : World} {E N : Nat} {f : Nat → Int} (h : EW w E N f) (g : Gs S w w') (hs : ¬ S E) (hl : E < w.heap.size) : EW w' E N f := fun i hi => by
 obtain ⟨h1, h2, h3, h4⟩ := h i hi
 exact ⟨g.cell hs h1, g.cell hs h2, g.frozen hl hs h3, g.frozen hl hs h4⟩
theorem run_fieldT (w : World) (p : Nat) : (Instr.fieldAt 71 (.pointer (some ⟨p, 0, none⟩)) 0).run Tryz.prog w = .ok (.pointer (some ⟨p, 0, none⟩)) w := by simp [go_sem]
theorem run_fieldT1 (w : World) (p : Nat) : (Instr.fieldAt 71 (.pointer (some ⟨p, 0, none⟩)) 1).run Tryz.prog w = .ok (.pointer (some ⟨p, 1, none⟩)) w := by simp [go_sem]
theorem run_mulI (w : World) (x y : Int) (h : IntKind.i64.wrap (x * y) = x * y) : (Go.binOp .mul 3 (.int .i64 x) (.int .i64 y)).run Tryz.prog w = .ok (.int .i64 (x * y)) w := by simp [go_sem, h]
theorem run_addI (w : World) (x y : Int) (h : IntKind.i64.wrap (x + y) = x + y) : (Go.binOp .add 3 (.int .i64 x) (.int .i64 y)).run Tryz.prog w = .ok (.int .i64 (x + y)) w := by simp [go_sem, h]
theorem ldWT {w : World} {b : Nat} {x : Int} (h0 : w.cell? ⟨b, 1, none⟩ = some (.bool (decide (x < 0)))) (h1 : w.cell? ⟨b, 2, none⟩ = some (.string (mg x))) : (Instr.loadAt 38 (.pointer (some ⟨b, 1, none⟩))).run Tryz.prog w = .ok (wv x) w := by
 show _ = Result.ok (Value.agg #[.bool (decide (x < 0)), .string (mg x)]) w
 simp [go_sem, h0, h1]
theorem cells3 {w : World} {b : Nat} {u0 u1 u2 : Value} (c0 : w.cell? ⟨b, 0, none⟩ = some u0) (c1 : w.cell? ⟨b, 1, none⟩ = some u1) (c2 : w.cell? ⟨b, 2, none⟩ = some u2) (x y z : Value) :
  (((w.setCell ⟨b, 0, none⟩ x).setCell ⟨b, 1, none⟩ y).setCell ⟨b, 2, none⟩ z).cell? ⟨b, 0, none⟩ = some x ∧ (((w.setCell ⟨b, 0, none⟩ x).setCell ⟨b, 1, none⟩ y).setCell ⟨b, 2, none⟩ z).cell? ⟨b, 1, none⟩ = some y ∧ (((w.setCell ⟨b, 0, none⟩ x).setCell ⟨b, 1, none⟩ y).setCell ⟨b, 2, none⟩ z).cell? ⟨b, 2, none⟩ = some z :=
 ⟨cell_setC (cell_setC (World.cell?_setCell_same' _ _ _ (by rw [c0]; rfl)) (by simp)) (by simp), cell_setC (World.cell?_setCell_same' _ _ _ (by rw [cell_setC c1 (by simp)]; rfl)) (by simp), World.cell?_setCell_same' _ _ _ (by rw [cell_setC (cell_setC c2 (by simp)) (by simp)]; rfl)⟩
theorem ef_slices_Index : ∀ args w, (callFunc 118 args).run Tryz.prog w = .ok (.enter 118 args) w := enter_fn Tryz.func118 (by kernel_rfl) (by kernel_rfl)
theorem moBoundary (v pvv : Value) (l : List Ce) (ps : List (Int × Int)) (w : World) (h : SlC w v l) (hl : l.length ≤ 200) (hok : COk l) (hp : Sl w 2 pvv (pv ps)) (hpI : ∀ p ∈ ps, I64 p.1 ∧ I64 p.2) (dim : Int) (hd : -1000 ≤ dim ∧ dim ≤ 1000) :
  Calls Tryz.prog 54 #[.agg #[v], pvv, .int .i64 dim] w fun e w' => Below w.heap.size w w' ∧
   ((opE (l.map Ce.cl) ps ≠ 0 ∧ e = .returned (.agg #[.int .i64 0, .int .i64 0, .slice none 0 0])) ∨
    (opE (l.map Ce.cl) ps = 0 ∧ ∃ E nr nc : Nat, nr = (critX (l.map Ce.cl) ps (dim - 1)).length ∧ nc = (critX (l.map Ce.cl) ps dim).length ∧ e = .returned (.agg #[.int .i64 nr, .int .i64 nc, .slice (some ⟨E, 0, none⟩) (nr * nc) (nr * nc)]) ∧ w.heap.size ≤ E ∧ E < w'.heap.size ∧
     EW w' E (nr * nc) (fun t => bdE (canon (l.map Ce.cl)) (mhi (l.map Ce.cl) ps) (mlo (l.map Ce.cl) ps) dim (t / nc) (t % nc)))) := by
 obtain ⟨a, len, cap, rfl⟩ := sl_shape h.1
 obtain ⟨a1, len1, cap1, rfl⟩ := sl_shape hp
 obtain ⟨W, hW⟩ : ∃ W, W = (w.alloc (.cells #[.slice a len cap] 26)).alloc (.cells #[.int .i64 0, .int .i64 0, .slice none 0 0] 44) := ⟨_, rfl⟩
 have hB : Below w.heap.size w W := by rw [hW]; exact ((Below.refl _ w).alloc (nlr _) _).alloc (by simp) _
 have hc := moOpen (.slice a len cap) (.slice a1 len1 cap1) l ps _ (h.keep hB) (by omega) hok (hp.keep hB) hpI
 have HC := lhd hc
 have HB := lhd hB
 obtain ⟨K0, hK0⟩ : ∃ K0, K0 = l.map Ce.cl := ⟨_, rfl⟩
 have HL := lhd (show K0.length ≤ 200 by rw [hK0, List.length_map]; exact hl)
 rw [← hK0] at HC ⊢
 clear hc hB h hl hok hp hpI hK0
 go_enter Tryz.func54, Tryz.ntmps54
 go_wp2_with fail
 rw [← hW]
 refine HC.out.mono ?_
 rintro e w1 ⟨hB1, hr⟩
 have HB1 := lhd (HB.out.trans (hB1.mono HB.out.size))
 have m0 : W.cell? ⟨w.heap.size + 1, 0, none⟩ = some (.int .i64 0) := by
  rw [hW]; simp
 have m1 : W.cell? ⟨w.heap.size + 1, 1, none⟩ = some (.int .i64 0) := by
  rw [hW]; simp
 have m2 : W.cell? ⟨w.heap.size + 1, 2, none⟩ = some (.slice none 0 0) := by
  rw [hW]; simp
 have mz : ∀ j, W.frozen? ⟨w.heap.size + 1, j, none⟩ = false := fun j => by
  rw [hW]; simp
 have hWl : w.heap.size + 1 < W.heap.size := by rw [hW]; simp
 obtain ⟨ob, hob⟩ : ∃ ob, ob = w.heap.size + 1 := ⟨_, rfl⟩
 rw [← hob] at m0 m1 m2 mz hWl ⊢
 have hobw : w.heap.size ≤ ob := by omega
 have q0 := Cx.keep hB1 m0
 have q1 := Cx.keep hB1 m1
 have q2 := Cx.keep hB1 m2
 have z0 := frozen_keepB hB1 hWl (mz 0)
 have z1 := frozen_keepB hB1 hWl (mz 1)
 have z2 := frozen_keepB hB1 hWl (mz 2)
 have HM := lhd (aiq q0 (aiq q1 (aiq q2 (aiq z0 (aiq z1 (aiq z2 (aiq hobw (Nat.lt_of_lt_of_le hWl hB1.size))))))))
 clear m0 m1 m2 mz hWl hob hB1 hW hobw
 rcases hr with ⟨E, h1, rfl, h2⟩ | ⟨h2, h3, T, rfl, h4⟩
 ·have hb : (E != 0) = true := by simpa using h1
  have H := lhd (aiq h1 h2)
  clear h1 h2
  go_wp2_with fail
  obtain ⟨q0, q1, q2, z0, z1, z2, hobw, hobl⟩ := HM.out
  obtain ⟨f0, f1, f2⟩ := cells3 q0 q1 q2 (.int .i64 0) (.int .i64 0) (.slice none 0 0)
  refine bodyPost_ret (v := .agg #[.int .i64 0, .int .i64 0, .slice none 0 0]) (by simp [results, Tryz.results54, go_sem, f0, f1, f2]) rfl ⟨((HB1.out.setCell hobw _).setCell hobw _).setCell hobw _, .inl ⟨by rw [H.out.2]; exact H.out.1, rfl⟩⟩
 obtain ⟨BS, BH, BL, nb2, a2, n, c, mm, hF, hT1, hT2, hT3, hT4⟩ := h4.fm h3
 have hKl : (canon K0).length ≤ 200 := by rw [canon_len]; exact HL.out
 have hrowsX : critX K0 ps (dim - 1) = critK (canon K0) (mhi K0 ps) (mlo K0 ps) (dim - 1) := by unfold critX; rw [if_pos h2]
 have hcolsX : critX K0 ps dim = critK (canon K0) (mhi K0 ps) (mlo K0 ps) dim := by unfold critX; rw [if_pos h2]
 obtain ⟨K, hK⟩ : ∃ K, K = canon K0 := ⟨_, rfl⟩
 obtain ⟨hi, hhi⟩ : ∃ hi, hi = mhi K0 ps := ⟨_, rfl⟩
 obtain ⟨lo, hlo⟩ : ∃ lo, lo = mlo K0 ps := ⟨_, rfl⟩
 rw [← hK, ← hhi, ← hlo] at hF hrowsX hcolsX
 have HEQ := lhd (aiq hK (aiq hhi hlo))
 rw [← hK] at hKl
 obtain ⟨rows, hrows⟩ : ∃ rows, rows = critK K hi lo (dim - 1) := ⟨_, rfl⟩
 obtain ⟨cols, hcols⟩ : ∃ cols, cols = critK K hi lo dim := ⟨_, rfl⟩
 rw [← hrows] at hrowsX
 rw [← hcols] at hcolsX
 obtain ⟨nr, hnr⟩ : ∃ nr, nr = rows.length := ⟨_, rfl⟩
 obtain ⟨nc, hnc⟩ : ∃ nc, nc = cols.length := ⟨_, rfl⟩
 have hnr2 : nr ≤ 200 := by rw [hnr, hrows]; exact Nat.le_trans (crit_len hF.good _ _ _) hKl
 have hnc2 : nc ≤ 200 := by rw [hnc, hcols]; exact Nat.le_trans (crit_len hF.good _ _ _) hKl
 have hrpw : rows.Pairwise (· < ·) := by rw [hrows]; exact crit_pw hF.good _
 have H := lhd (aiq h2 (aiq hF (aiq hrows (aiq hcols (aiq hnr (aiq hnc hrpw))))))
 have HX := lhd (aiq hrowsX (aiq hcolsX hKl))
 have g1 : ((nr : Int) > 200) = False := by simp; omega
 have g2 : ((nc : Int) > 200) = False := by simp; omega
 clear h2 h3 h4 hF hT1 hT2 hT3 hT4 q0 q1 q2 z0 z1 z2 hK hhi hlo hrows hcols hnr hnc hrpw hrowsX hcolsX hKl
 go_wp2_with fail
 refine (moCrit H.out.2.1 (dim - 1)).mono ?_
 rintro e w2 ⟨r2, rfl, row2, hb2⟩
 rw [← H.out.2.2.1, ← H.out.2.2.2.2.1] at row2
 obtain ⟨v2, n2', c2, rfl⟩ := sl_shape (Sl.of_ownsRow row2)
 have hF2 := H.out.2.1.keep hb2
 have HR := lhd (aiq row2 (aiq hb2 hF2))
 clear row2 hb2 hF2
 go_wp2_with fail
 refine (moCrit HR.out.2.2 dim).mono ?_
 rintro e w3 ⟨r3, rfl, row3, hb3⟩
 rw [← H.out.2.2.2.1, ← H.out.2.2.2.2.2.1] at row3
 obtain ⟨v3, n3', c3, rfl⟩ := sl_shape (Sl.of_ownsRow row3)
 have e2 : n2' = nr := by
  obtain ⟨_, _, _, he, _, _, h3, _⟩ := (Sl.of_ownsRow HR.out.1); cases he; rw [ints_len, ← H.out.2.2.2.2.1] at h3; omega
 have e3 : n3' = nc := by
  obtain ⟨_, _, _, he, _, _, h3, _⟩ := (Sl.of_ownsRow row3); cases he; rw [ints_len, ← H.out.2.2.2.2.2.1] at h3; omega
 subst e2 e3
 have hrl := Sl.of_ownsRow row3
 have hF3 := HR.out.2.2.keep hb3
 have HS := lhd (aiq ((Sl.of_ownsRow HR.out.1).keep hb3) (aiq hrl (aiq hb3 hF3)))
 have hB3w : Below w.heap.size w w3 := HB1.out.trans ((HR.out.2.1.trans (hb3.mono HR.out.2.1.size)).mono HB1.out.size)
 have HB3 := lhd hB3w
 clear row3 hb3 hrl hF3 hB3w
 go_wp2_with fail
 refine (mtZero n2' n3' w3 hnr2 hnc2).mono ?_
 rintro e w4 ⟨E, rfl, hE1, hE2, hEW, hb4⟩
 obtain ⟨N, hN⟩ : ∃ N, N = n2' * n3' := ⟨_, rfl⟩
 rw [← hN] at hEW ⊢
 have HE := lhd (aiq hE1 (aiq hE2 (aiq hEW (aiq hb4 hN))))
 clear hE1 hE2 hEW hb4 hN
 go_wp2_with fail
 obtain ⟨V, hV⟩ : ∃ V, V = w4.alloc (.cells #[.int .i64 n2', .int .i64 n3', .slice (some ⟨E, 0, none⟩) N N] 44) := ⟨_, rfl⟩
 rw [← hV]
 obtain ⟨pb, hpb⟩ : ∃ pb, pb = w4.heap.size := ⟨_, rfl⟩
 have u0 : V.cell? ⟨pb, 0, none⟩ = some (.int .i64 n2') := by rw [hV, hpb]; exact cell_new w4 _ _ (0, 0) 0
 have u1 : V.cell? ⟨pb, 1, none⟩ = some (.int .i64 n3') := by rw [hV, hpb]; exact cell_new w4 _ _ (0, 0) 1
 have u2 : V.cell? ⟨pb, 2, none⟩ = some (.slice (some ⟨E, 0, none⟩) N N) := by rw [hV, hpb]; exact cell_new w4 _ _ (0, 0) 2
 have hB4V : Below w4.heap.size w4 V := by rw [hV]; exact (Below.refl _ w4).alloc (nlr _) _
 rw [← hpb]
 have hEp : E ≠ pb := by have := HE.out.2.1; omega
 have hEV := HE.out.2.2.1.keep hB4V HE.out.2.1
 have hB3V : Below w3.heap.size w3 V := HE.out.2.2.2.1.trans (hB4V.mono HE.out.2.2.2.1.size)
 have HV := lhd (aiq u0 (aiq u1 (aiq u2 (aiq hEp (aiq hEV (aiq hB3V (Nat.lt_of_lt_of_le HE.out.2.1 hB4V.size)))))))
 clear u0 u1 u2 hB4V hEp hEV hB3V hV hpb
 have far : ∀ U, Gs (fun b => b = E) V U → Below w3.heap.size w3 U ∧ U.cell? ⟨pb, 0, none⟩ = some (.int .i64 n2') ∧ U.cell? ⟨pb, 1, none⟩ = some (.int .i64 n3') ∧ U.cell? ⟨pb, 2, none⟩ = some (.slice (some ⟨E, 0, none⟩) N N) := fun U hU => by
  obtain ⟨u0, u1, u2, hEp, _, hB3V, _⟩ := HV.out
  have hb : ¬ (pb = E) := fun e => hEp e.symm
  exact ⟨hB3V.trans (hU.below hB3V.size fun b h => by rw [h]; exact HE.out.1), hU.cell hb u0, hU.cell hb u1, hU.cell hb u2⟩
 have FAR := lhd far
 clear far
 go_wp2_with fail
 go_loopw [49] (fun i wr => ∃ k : Nat, i = .int .i64 k ∧ k ≤ n3' ∧ Hid (EW wr E N (fun t => if t % n3' < k then bdE K hi lo dim (t / n3') (t % n3') else 0) ∧ Gs (fun b => b = E) V wr)) (fun i _ => n3' - (vI i).toNat)
 case atStart => exact ⟨0, rfl, Nat.zero_le _, HV.out.2.2.2.2.1.congr fun t _ => by rw [if_neg (by omega)], Gs.refl _ _⟩
 case round =>
  obtain ⟨k, rfl, hk, HR1⟩ := hrel
  by_cases hlt : k < n3'
  ·obtain ⟨wo, hwo⟩ : ∃ wo, wo = wr := ⟨_, rfl⟩
   subst hwo
   obtain ⟨_, _, _, he0, y1, y2, y3, y4, y5⟩ := HS.out.2.1
   cases he0
   obtain ⟨ad, rfl⟩ : ∃ ad, v3 = some ad := by
    cases v3 with
    | none => have := y4 rfl; omega
    | some ad => exact ⟨ad, rfl⟩
   have hcl : cols.length = n3' := H.out.2.2.2.2.2.1.symm
   obtain ⟨id, hid⟩ : ∃ id, cols[k]? = some id := ⟨_, List.getElem?_eq_getElem (by rw [hcl]; exact hlt)⟩
   obtain ⟨hB3o, pu0, pu1, pu2⟩ := FAR.out wo HR1.out.2
   have d0 : wo.cell? (ad.add k) = some (.int .i64 id) := Cx.keep hB3o (y5 ad rfl _ _ (by simp [ints, hid]))
   have hFo := HS.out.2.2.2.keep hB3o
   have t0 := hFo.fld.t0
   have hidK : ∃ y ∈ K, y.id = id ∧ y.dim = dim - 1 + 1 := by
    have := List.mem_of_getElem? hid
    rw [H.out.2.2.2.1] at this
    obtain ⟨⟨y, hy, h1, h2⟩, _⟩ := (crit_mem H.out.2.1.good).1 this
    exact ⟨y, hy, h1, by omega⟩
   have hidI : I64 id := by
    obtain ⟨y, hy, rfl, _⟩ := hidK
    exact in_ok H.out.2.1.cl H.out.2.1.ok (List.mem_map_of_mem hy)
   have HK := lhd (aiq hid (aiq hB3o (aiq hFo (aiq hidK hidI))))
   clear y1 y2 y3 y4 y5 hcl hid hB3o hFo hidK hidI pu0 pu1 pu2
   go_wp2_with fail
   refine (wFrom 1 _ (by decide) (by decide)).mono ?_
   rintro e w5 ⟨rfl, hb5⟩
   have t5 := Cx.keep hb5 t0
   have hx1 : Sl (w5.alloc (.cells #[.int .i64 id, .bool false, .string (mg 1)] 71)) 3 (.slice (some ⟨w5.heap.size, 0, none⟩) 1 1) (tv (ctm [(id, 1)])) := slOne w5 71 3 [.int .i64 id, .bool (decide ((1 : Int) < 0)), .string (mg 1)] 1 rfl (by unfold maxLen; omega)
   have HB5 := lhd hb5
   clear t0 d0 hb5
   unfold wv
   go_upto_region 12 with fail
   obtain ⟨w6, hw6⟩ : ∃ w6, w6 = w5.alloc (.cells #[.int .i64 id, .bool false, .string (mg 1)] 71) := ⟨_, rfl⟩
   have t6 : w6.cell? ⟨T, 0, none⟩ = some (.slice a2 n c) := by rw [hw6]; exact keepAl t5 _
   have B6 : Below wo.heap.size wo w6 := by rw [hw6]; exact HB5.out.alloc HB5.out.size _
   rw [← hw6] at hx1 ⊢
   have hF6 := HK.out.2.2.1.keep B6
   have tok1 : TOk 1 (ctm [(id, 1)]) := LOk.tok fun p hp => by
    have : p = (id, 1) := by simpa using hp
    rw [this]
    exact ⟨HK.out.2.2.2.2, nb_le 1 1 (by decide)⟩
   have hraw : (raws mm).length ≤ 256000 := by rw [raws_cl, hF6.cl]; exact raws_small hF6.good
   have HX1 := lhd (aiq hx1 (aiq B6 (aiq hF6 (aiq tok1 hraw))))
   clear hx1 B6 hF6 tok1 hraw hw6 t5
   go_wp2_with fail
   refine (chBoundary _ mm _ (ctm [(id, 1)]) 1 w6 HX1.out.2.2.1.fld.row HX1.out.2.2.1.ok HX1.out.1 HX1.out.2.2.2.1 (by rw [ctm_len]; have := HX1.out.2.2.2.2; show _ + 1 + _ ≤ _; omega)).mono ?_
   rintro e w7 ⟨r7, rfl, ⟨Lb, cn7, cv7, ln7, row7⟩, hb7⟩
   obtain ⟨v7, n7, c7, rfl⟩ := sl_shape (Sl.of_ownsRow row7)
   have hG := HX1.out.2.2.1.good
   have hbd : co Lb = bdD K id 1 := funext fun d => by
    rw [cv7, prs_ctm, co_one, raws_cl, HX1.out.2.2.1.cl]; rfl
   have in7 : In0 K (co Lb) := by rw [hbd]; exact bdD_in hG id 1
   have nb7 : ∀ d, nb (co Lb d) ≤ 1 := fun d => by rw [hbd]; exact bd_one hG id d
   have tok7 : TOk 1 (ctm Lb) := cn_tok HX1.out.2.2.1.cl HX1.out.2.2.1.ok cn7 in7 nb7
   have l7 := cn_len cn7 in7
   have hKl2 := HX.out.2.2
   have hF7 := HX1.out.2.2.1.keep hb7
   have HX2 := lhd (aiq row7 (aiq hb7 (aiq hbd (aiq tok7 (aiq hF7 (Nat.le_trans l7 hKl2))))))
   clear row7 hb7 hbd tok7 hF7 l7 hKl2 cn7 cv7 ln7 in7 nb7 hG t6
   go_wp2_with fail
   refine (moDown HX2.out.2.2.2.2.1 _ (ctm Lb) 1 (Sl.of_ownsRow HX2.out.1) HX2.out.2.2.2.1 (by rw [ctm_len]; have := HX2.out.2.2.2.2.2; omega)).mono ?_
   rintro e w8 ⟨r8, L, rfl, cn8, cv8, row8, in8, nb8, hb8⟩
   rw [prs_ctm, HX2.out.2.2.1] at cv8
   obtain ⟨v8, n8, c8, rfl⟩ := sl_shape (Sl.of_ownsRow row8)
   have e8 : n8 = L.length := by
    obtain ⟨_, _, _, he, _, _, h3, _⟩ := (Sl.of_ownsRow row8); cases he; rw [tv_len, ctm_len] at h3; omega
   have Bo8 : Below wo.heap.size wo w8 := HX1.out.2.1.trans ((HX2.out.2.1.trans (hb8.mono HX2.out.2.1.size)).mono HX1.out.2.1.size)
   have hEo : E < wo.heap.size := Nat.lt_of_lt_of_le HV.out.2.2.2.2.2.2 HR1.out.2.size
   have hEW8 := HR1.out.1.keep Bo8 hEo
   have hG8 : Gs (fun b => b = E) V w8 := HR1.out.2.trans (Gs.of_below Bo8)
   have hL8 := Sl.of_ownsRow row8
   have hn8 : n8 ≤ 4000 := by rw [e8]; exact Nat.le_trans (cn_len cn8 in8) H.out.2.1.good.len
   have hrowne : ∀ g, (Value.slice v8 n8 c8).ownBlock = some g → wo.heap.size ≤ g := fun g hg => Nat.le_trans (Nat.le_trans HX1.out.2.1.size HX2.out.2.1.size) (row8.lt g hg).1
   have HL8 := lhd (aiq cn8 (aiq cv8 (aiq hL8 (aiq nb8 (aiq hEW8 (aiq hG8 (aiq hEo (aiq e8 (aiq hrowne in8)))))))))
   clear cn8 cv8 row8 in8 nb8 hb8 Bo8 hEW8 hG8 hL8 hEo e8 hrowne
   go_wp2_with fail
   go_loopw [67] (fun i wr => ∃ q : Nat, i = .int .i64 q ∧ q ≤ n8 ∧ Hid (EW wr E N (fun t => if t % n3' < k then bdE K hi lo dim (t / n3') (t % n3') else if t % n3' = k then co (L.take q) (rows.getD (t / n3') 0) else 0) ∧ Gs (fun b => b = E) w8 wr)) (fun i _ => n8 - (vI i).toNat)
   case atStart => exact ⟨0, rfl, Nat.zero_le _, HL8.out.2.2.2.2.1.congr fun t _ => by
    by_cases h1 : t % n3' < k
    ·rw [if_pos h1, if_pos h1]
    ·rw [if_neg h1, if_neg h1, List.take_zero]; split <;> rfl, Gs.refl _ _⟩
   case round =>
    obtain ⟨q, rfl, hq, HR2⟩ := hrel
    by_cases hql : q < n8
    ·obtain ⟨_, _, _, he0, y1, y2, y3, y4, y5⟩ := HL8.out.2.2.1
     cases he0
     obtain ⟨ad8, rfl⟩ : ∃ ad, v8 = some ad := by
      cases v8 with
      | none => have := y4 rfl; omega
      | some ad => exact ⟨ad, rfl⟩
     obtain ⟨⟨cc, x⟩, hcx⟩ : ∃ p, L[q]? = some p := ⟨_, List.getElem?_eq_getElem (by rw [← HL8.out.2.2.2.2.2.2.2.1]; exact hql)⟩
     obtain ⟨e0, e1, e2⟩ := tv_get (ctm L) q ⟨cc, decide (x < 0), mg x⟩ (by unfold ctm; rw [List.getElem?_map, hcx]; rfl)
     have hne8 : ¬ (ad8.block = E) := fun e => by
      have h1 := HL8.out.2.2.2.2.2.2.1
      have h2 := HL8.out.2.2.2.2.2.2.2.2.1 ad8.block (by cases ad8; rfl)
      omega
     have hblk : ∀ j, (ad8.add j).block = ad8.block := fun j => by unfold Addr.add; split <;> rfl
     have hne8' : ¬ ((ad8.add (q * 3)).block = E) := by rw [hblk]; exact hne8
     have d0 : wr.cell? (ad8.add (q * 3)) = some (.int .i64 cc) := HR2.out.2.cell hne8' (y5 ad8 rfl _ _ e0)
     have d1 : wr.cell? ⟨(ad8.add (q * 3)).block, (ad8.add (q * 3)).off + 1, none⟩ = some (.bool (decide (x < 0))) := HR2.out.2.cell hne8' (by rw [add_part _ _ _ (by omega)]; exact y5 ad8 rfl _ _ e1)
     have d2 : wr.cell? ⟨(ad8.add (q * 3)).block, (ad8.add (q * 3)).off + 2, none⟩ = some (.string (mg x)) := HR2.out.2.cell hne8' (by rw [add_part _ _ _ (by omega)]; exact y5 ad8 rfl _ _ e2)
     have HCX := lhd hcx
     clear y1 y2 y3 y4 y5 e0 e1 e2 hne8 hblk hne8' hcx
     have hGV : Gs (fun b => b = E) V wr := HL8.out.2.2.2.2.2.1.trans HR2.out.2
     obtain ⟨hB3r, _, _, o2r⟩ := FAR.out wr hGV
     have hEr : E < wr.heap.size := Nat.lt_of_lt_of_le HV.out.2.2.2.2.2.2 hGV.size
     obtain ⟨wm, hwm⟩ : ∃ wm, wm = wr.alloc (.cells #[.int .i64 cc, .bool (decide (x < 0)), .string (mg x)] 71) := ⟨_, rfl⟩
     obtain ⟨mp, hmp⟩ : ∃ mp, mp = wr.heap.size := ⟨_, rfl⟩
     have m0 : wm.cell? ⟨mp, 0, none⟩ = some (.int .i64 cc) := by rw [hwm, hmp]; exact cell_new wr _ _ (0, 0) 0
     have m1 : wm.cell? ⟨mp, 1, none⟩ = some (.bool (decide (x < 0))) := by rw [hwm, hmp]; exact cell_new wr _ _ (0, 0) 1
     have m2 : wm.cell? ⟨mp, 2, none⟩ = some (.string (mg x)) := by rw [hwm, hmp]; exact cell_new wr _ _ (0, 0) 2
     have hgm : Below wr.heap.size wr wm := by rw [hwm]; exact (Below.refl _ wr).alloc (nlr _) _
     have o2 := Cx.keep hgm o2r
     have hrowsm := (HS.out.1.keep hB3r).keep hgm
     have hccr : cc ∈ rows := by
      rw [H.out.2.2.1]
      refine down_rows H.out.2.1.good H.out.2.1.mtc H.out.2.1.ac HK.out.2.2.2.1 ?_
      rw [← HL8.out.2.1]
      have hm := List.mem_of_getElem? HCX.out
      have := co_mem HL8.out.1.1 hm
      have h2 := HL8.out.1.2 _ hm
      intro e
      exact h2 (this.symm.trans e)
     obtain ⟨i0, hi0l, hi0e⟩ := List.getElem_of_mem hccr
     have hi0 : rows[i0]? = some cc := by rw [List.getElem?_eq_getElem hi0l, hi0e]
     have hi0n : i0 < n2' := by rw [H.out.2.2.2.2.1]; exact hi0l
     obtain ⟨ix, hix⟩ : ∃ ix : Nat, ix = i0 * n3' + k := ⟨_, rfl⟩
     have hixN : ix < N := by
      rw [hix, HE.out.2.2.2.2]
      have h1 : (i0 + 1) * n3' ≤ n2' * n3' := Nat.mul_le_mul_right _ hi0n
      rw [Nat.add_mul] at h1
      omega
     have hmul : (i0 : Int) * (n3' : Int) ≤ 40000 ∧ 0 ≤ (i0 : Int) * (n3' : Int) := by
      have h1 : i0 * n3' ≤ 200 * 200 := Nat.mul_le_mul (by omega) hnc2
      rw [← Int.natCast_mul]
      omega
     have hadd : (i0 : Int) * (n3' : Int) + (k : Int) = (ix : Int) := by rw [hix, Int.natCast_add, Int.natCast_mul]
     have hEm := HR2.out.1.keep hgm hEr
     have hE : ∀ w', Below wm.heap.size wm w' → Bx' w' E ix (if ix % n3' < k then bdE K hi lo dim (ix / n3') (ix % n3') else if ix % n3' = k then co (L.take q) (rows.getD (ix / n3') 0) else 0) := fun w' h => hEm.keep h (Nat.lt_of_lt_of_le hEr hgm.size) ix hixN
     obtain ⟨od, hod⟩ : ∃ od, od = (if ix % n3' < k then bdE K hi lo dim (ix / n3') (ix % n3') else if ix % n3' = k then co (L.take q) (rows.getD (ix / n3') 0) else 0) := ⟨_, rfl⟩
     rw [← hod] at hE
     have hrpw := H.out.2.2.2.2.2.2
     have HO := lhd (aiq hi0 (aiq hix (aiq hixN (aiq hgm (aiq hEm (aiq hGV (aiq hE (aiq hmul (aiq hadd (aiq hrowsm hEr))))))))))
     clear hi0e hi0l hccr hod hB3r o2r hGV hgm hEm
     go_upto_region 15 with fail
     rw [← hmp, ← hwm]
     clear hmp hwm hix hi0 hixN hE hmul hadd hrowsm hEr hrpw hi0n d0 d1 d2
     refine wp_open fun KO hKO => ?_
     go_cut [71] from 72 to 84 (fun _ wx => ∃ w', Hid (Below wm.heap.size wm w') ∧ wx = (w'.setCell ⟨E, ix * 2, none⟩ (.bool (decide (x < 0)))).setCell ⟨E, ix * 2 + 1, none⟩ (.string (mg x)))
     case first =>
      rename_i J K2 hJ hK2
      obtain ⟨hi0, hix, hixN, hgm, hEm, hGV, hE, hmul, hadd, hrowsm, hEr⟩ := HO.out
      have hrpw := H.out.2.2.2.2.2.2
      refine region_tail rfl (fun i' v => ∀ x', ([some (.pointer (some ⟨pb, 2, none⟩)), some (.slice (some ⟨E, 0, none⟩) N N), some (.slice v2 n2' c2), some (.pointer (some ⟨mp, 0, none⟩)), some (.int .i64 cc), some (.int .i64 i0), some (.slice (some ad) n3' c3), some (.int .i64 n3'), some (.int .i64 ((i0 : Int) * n3')), some (.int .i64 k), some (.int .i64 ix), some (.pointer (some ⟨mp, 1, none⟩)), some (wv x), some (.pointer (some ⟨E, ix * 2, none⟩))] : List (Option Value)).getD i' none = some x' → v = x') 14 15 88 rfl (by kernel_rfl) (by kernel_rfl) (by decide) (by kernel_rfl) (by kernel_rfl) (fun a w'' => K2 a w'') ?step ?store (fun a w'' h => h)
      case step =>
       intro i' o ho hne a w' hw hd hbase hsz
       have ht11 := hbase 11 (noDst_spec (by kernel_rfl))
       have ht9 := hbase 9 (noDst_spec (by kernel_rfl))
       have ht16 := hbase 16 (noDst_spec (by kernel_rfl))
       have ht10 := hbase 10 (noDst_spec (by kernel_rfl))
       have ht12 := hbase 12 (noDst_spec (by kernel_rfl))
       match i', ho, hd with
       | 0, ho, hd =>
        obtain rfl := osi ho
        exact ⟨rfl, Option.some_ne_none _, do_field _ _ _ rfl _ ht11 _ (run_fieldM _ _) ⟨_, rfl, fun _ h => osi h, Below.refl _ _⟩⟩
       | 1, ho, hd =>
        obtain rfl := osi ho
        exact ⟨rfl, Option.some_ne_none _, do_load _ _ rfl _ (hd 0 _ _ rfl rfl (by kernel_rfl) _ rfl) _ (run_ldSW _ _ _ _ _ (Cx.keep hw o2)) ⟨_, rfl, fun _ h => osi h, Below.refl _ _⟩⟩
       | 2, ho, hd =>
        obtain rfl := osi ho
        exact ⟨rfl, Option.some_ne_none _, do_move _ (.inl rfl) ⟨_, rfl, fun _ h => ht9.trans (osi h), Below.refl _ _⟩⟩
       | 3, ho, hd =>
        obtain rfl := osi ho
        exact ⟨rfl, Option.some_ne_none _, do_field _ _ _ rfl _ ht16 _ (run_fieldT _ _) ⟨_, rfl, fun _ h => osi h, Below.refl _ _⟩⟩
       | 4, ho, hd =>
        obtain rfl := osi ho
        exact ⟨rfl, Option.some_ne_none _, do_load _ _ rfl _ (hd 3 _ _ rfl rfl (by kernel_rfl) _ rfl) _ (run_ldi _ _ _ (Cx.keep hw m0)) ⟨_, rfl, fun _ h => osi h, Below.refl _ _⟩⟩
       | 5, ho, hd =>
        obtain rfl := osi ho
        have f0 : a.tmps.getD 73 undef = .slice v2 n2' c2 := hd 2 _ _ rfl rfl (by kernel_rfl) _ rfl
        have f1 : a.tmps.getD 75 undef = .int .i64 cc := hd 4 _ _ rfl rfl (by kernel_rfl) _ rfl
        exact ⟨rfl, Option.some_ne_none _, do_call _ _ _ rfl ef_slices_Index #[.slice v2 n2' c2, .int .i64 cc] (by simp [Act.eval, f0, f1]) ((slIndex _ rows cc _ (hrowsm.keep hw)).mono fun e w6 ⟨i, he, hf, hb⟩ => ⟨_, he, _, rfl, fun _ h => (congrArg (Value.int .i64) (first_is hrpw hi0 hf)).trans (osi h), hb⟩)⟩
       | 6, ho, hd =>
        obtain rfl := osi ho
        exact ⟨rfl, Option.some_ne_none _, do_move _ (.inl rfl) ⟨_, rfl, fun _ h => ht10.trans (osi h), Below.refl _ _⟩⟩
       | 7, ho, hd =>
        obtain rfl := osi ho
        exact ⟨rfl, Option.some_ne_none _, do_len _ rfl Tryz.underlying22 _ n3' c3 (hd 6 _ _ rfl rfl (by kernel_rfl) _ rfl) ⟨_, rfl, fun _ h => osi h, Below.refl _ _⟩⟩
       | 8, ho, hd =>
        obtain rfl := osi ho
        exact ⟨rfl, Option.some_ne_none _, do_bin _ _ _ _ _ rfl _ _ (hd 5 _ _ rfl rfl (by kernel_rfl) _ rfl) (hd 7 _ _ rfl rfl (by kernel_rfl) _ rfl) _ rfl (run_mulI _ _ _ (IntWalk.i64_in _ (by omega))) ⟨_, rfl, fun _ h => osi h, Below.refl _ _⟩⟩
       | 9, ho, hd =>
        obtain rfl := osi ho
        exact ⟨rfl, Option.some_ne_none _, do_move _ (.inl rfl) ⟨_, rfl, fun _ h => ht12.trans (osi h), Below.refl _ _⟩⟩
       | 10, ho, hd =>
        obtain rfl := osi ho
        exact ⟨rfl, Option.some_ne_none _, do_bin _ _ _ _ _ rfl _ _ (hd 8 _ _ rfl rfl (by kernel_rfl) _ rfl) (hd 9 _ _ rfl rfl (by kernel_rfl) _ rfl) _ rfl (run_addI _ _ _ (IntWalk.i64_in _ (by omega))) ⟨_, rfl, fun _ h => (congrArg (Value.int .i64) hadd).trans (osi h), Below.refl _ _⟩⟩
       | 11, ho, hd =>
        obtain rfl := osi ho
        exact ⟨rfl, Option.some_ne_none _, do_field _ _ _ rfl _ ht16 _ (run_fieldT1 _ _) ⟨_, rfl, fun _ h => osi h, Below.refl _ _⟩⟩
       | 12, ho, hd =>
        obtain rfl := osi ho
        exact ⟨rfl, Option.some_ne_none _, do_load _ _ rfl _ (hd 11 _ _ rfl rfl (by kernel_rfl) _ rfl) _ (ldWT (Cx.keep hw m1) (Cx.keep hw m2)) ⟨_, rfl, fun _ h => osi h, Below.refl _ _⟩⟩
       | 13, ho, hd =>
        obtain rfl := osi ho
        exact ⟨rfl, Option.some_ne_none _, do_idx _ _ _ rfl _ _ (hd 1 _ _ rfl rfl (by kernel_rfl) _ rfl) (hd 10 _ _ rfl rfl (by kernel_rfl) _ rfl) _ (run_idxW _ _ _ _ _ hixN) ⟨_, rfl, fun _ h => osi h, Below.refl _ _⟩⟩
       | 14, ho, hd => exact absurd rfl hne
       | i' + 15, ho, hd =>
        have : i' + 15 < 15 := (Array.getElem?_eq_some_iff.1 ho).1
        omega
      case store =>
       intro o ho a w' hsz hdf hw hf hbase
       obtain rfl := osi ho
       have f0 : a.tmps.getD 84 undef = .pointer (some ⟨E, ix * 2, none⟩) := hf 13 _ _ rfl rfl _ rfl
       have f1 : a.tmps.getD 83 undef = wv x := hf 12 _ _ rfl rfl _ rfl
       refine ⟨rfl, do_store _ _ _ rfl _ _ f0 f1 (run_stWE _ _ _ _ _ _ (hE _ hw).1 (hE _ hw).2.1 (hE _ hw).2.2.1 (hE _ hw).2.2.2) ?_⟩
       refine hK2 _ _ (Met.intro (hJ _ _ ⟨a.tmps.getD 71 undef, a.tmps.getD 72 undef, a.tmps.getD 73 undef, a.tmps.getD 74 undef, a.tmps.getD 75 undef, a.tmps.getD 76 undef, a.tmps.getD 77 undef, a.tmps.getD 78 undef, a.tmps.getD 79 undef, a.tmps.getD 80 undef, a.tmps.getD 81 undef, a.tmps.getD 82 undef, a.tmps.getD 83 undef, a.tmps.getD 84 undef, ⟨w', lhd hw, rfl⟩, (act_lit hsz hdf hbase).trans ?_⟩))
       kernel_rfl
     case rest =>
      obtain ⟨w', HWb, rfl⟩ := hcut
      refine hKO _ _ ?_
      go_wp2
      go_roundw
      case measure => simp [vI]; omega
      case rel =>
       obtain ⟨hi0, hix, hixN, hgm, hEm, hGV, hE, hmul, hadd, hrowsm, hEr⟩ := HO.out
       have hEW' := ((hEm.keep HWb.out (Nat.lt_of_lt_of_le hEr hgm.size)).put ix x)
       refine ⟨q + 1, i64_eq (by omega), by omega, (show Hid _ from hEW'.congr fun t ht => ?_), ?_⟩
       ·rw [hix]
        exact ent_step H.out.2.2.2.2.2.2 HL8.out.1 HCX.out hi0 hlt (bdE K hi lo dim) t (by rw [← H.out.2.2.2.2.1, ← HE.out.2.2.2.2]; exact ht)
       ·have hG2 := (HR2.out.2.trans (Gs.of_below hgm)).trans (Gs.of_below HWb.out)
        exact (hG2.setCell rfl _).setCell rfl _
    ·have hqe : q = n8 := by omega
     subst hqe
     go_wp2_with fail
     go_roundw
     case measure => simp [vI]; omega
     case rel =>
      refine ⟨k + 1, i64_eq (by omega), by omega, (show Hid _ from HR2.out.1.congr fun t ht => ?_), HL8.out.2.2.2.2.2.1.trans HR2.out.2⟩
      by_cases h1 : t % n3' < k
      ·rw [if_pos h1, if_pos (by omega)]
      ·by_cases h2 : t % n3' = k
       ·rw [if_neg h1, if_pos h2, if_pos (by omega), List.take_of_length_le (by rw [← HL8.out.2.2.2.2.2.2.2.1]; exact nlr _), HL8.out.2.1]
        unfold bdE
        rw [h2, ← H.out.2.2.1, ← H.out.2.2.2.1, List.getD_eq_getElem?_getD (l := cols), HK.out.1]
        rfl
       ·rw [if_neg h1, if_neg h2, if_neg (by omega)]
  ·have hke : k = n3' := by omega
   subst hke
   obtain ⟨hB3r, r0, r1, r2⟩ := FAR.out wr HR1.out.2
   obtain ⟨q0, q1, q2, z0, z1, z2, hobw, hobl⟩ := HM.out
   have hBo : Below w1.heap.size w1 wr := (HR.out.2.1.trans ((HS.out.2.2.1.trans (hB3r.mono HS.out.2.2.1.size)).mono HR.out.2.1.size))
   have o0 := Cx.keep hBo q0
   have o1 := Cx.keep hBo q1
   have o2 := Cx.keep hBo q2
   have y0 := frozen_keepB hBo hobl z0
   have y1 := frozen_keepB hBo hobl z1
   have y2 := frozen_keepB hBo hobl z2
   have HFIN := lhd (aiq hB3r (aiq hobw hBo))
   clear q0 q1 q2 z0 z1 z2 hobw hBo hB3r hobl
   go_wp2_with fail
   obtain ⟨f0, f1, f2⟩ := cells3 o0 o1 o2 (.int .i64 n2') (.int .i64 k) (.slice (some ⟨E, 0, none⟩) N N)
   have hbw : Below w.heap.size w wr := HB3.out.trans (HFIN.out.1.mono HB3.out.size)
   have hobE : ¬ (E = ob) := fun e => by
    have h1 := HM.out.2.2.2.2.2.2.2
    have h2 := HR.out.2.1.size
    have h3 := HS.out.2.2.1.size
    have h4 := HE.out.1
    omega
   have hEr : E < wr.heap.size := Nat.lt_of_lt_of_le HV.out.2.2.2.2.2.2 HR1.out.2.size
   refine bodyPost_ret (v := .agg #[.int .i64 n2', .int .i64 k, .slice (some ⟨E, 0, none⟩) N N]) (by simp [results, Tryz.results54, go_sem, f0, f1, f2]) rfl ⟨((hbw.setCell HFIN.out.2.1 _).setCell HFIN.out.2.1 _).setCell HFIN.out.2.1 _, .inr ⟨H.out.1, E, n2', k, ?_, ?_, ?_, ?_, ?_, ?_⟩⟩
   ·rw [HX.out.1]; exact H.out.2.2.2.2.1
   ·rw [HX.out.2.1]; exact H.out.2.2.2.2.2.1
   ·rw [HE.out.2.2.2.2]
   ·exact Nat.le_trans HB3.out.size HE.out.1
   ·simpa [World.setCell] using hEr
   ·rw [← HE.out.2.2.2.2]
    have hg : Gs (fun b => b = ob) wr (((wr.setCell ⟨ob, 0, none⟩ (.int .i64 n2')).setCell ⟨ob, 1, none⟩ (.int .i64 k)).setCell ⟨ob, 2, none⟩ (.slice (some ⟨E, 0, none⟩) N N)) := Gs.setCell (p := ⟨ob, 2, none⟩) (Gs.setCell (p := ⟨ob, 1, none⟩) (Gs.setCell (p := ⟨ob, 0, none⟩) (Gs.refl (fun b => b = ob) wr) rfl _) rfl _) rfl _
    refine (HR1.out.1.gs hg hobE hEr).congr fun t ht => ?_
    have hk0 : 0 < k := by
     rcases Nat.eq_zero_or_pos k with h0 | h0
     ·rw [HE.out.2.2.2.2, h0, Nat.mul_zero] at ht; omega
     ·exact h0
    rw [if_pos (Nat.mod_lt _ hk0), ← HEQ.out.1, ← HEQ.out.2.1, ← HEQ.out.2.2]
end Go.Proofs.YtlhicnfeajejhaaGreatDoor
namespace Go.Cx
open Go.Proofs.YtlhicnfeajejhaaGreatDoor
theorem chk_simpN (l : List Int) : chk (simpN l) = (0, 0) := chk_simpK _ (by rw [List.length_map, List.length_take]; omega) fun s hs => by
 obtain ⟨x, _, rfl⟩ := List.mem_map.1 hs
 exact ⟨(vsOf_ok x).1, (vsOf_ok x).2.1⟩
theorem canon_simpN (l : List Int) : canon (simpN l) = simpN l := cels_canon _ _
theorem good_simpN (l : List Int) : Cx.Good (simpN l) := by
 have := good_canon (chk_simpN l)
 rwa [canon_simpN] at this
theorem insS_end (a : List Sd) (x : Sd) (h : ∀ y ∈ a, y.c ≤ x.c) : insS a x = a ++ [x] := by
 induction a with
 | nil => rfl
 | cons y a ih =>
  unfold insS
  rw [if_pos (h y (by simp)), ih fun z hz => h z (by simp [hz])]
  rfl
theorem srtL_id {l : List Sd} (h : l.Pairwise fun s t => s.c ≤ t.c) : srtL l = l := by
 have key : ∀ (l a : List Sd), (a ++ l).Pairwise (fun s t => s.c ≤ t.c) → l.foldl insS a = a ++ l := fun l => by
  induction l with
  | nil => intro a _; simp
  | cons x l ih =>
   intro a h
   rw [List.foldl_cons, insS_end a x fun y hy => (List.pairwise_append.1 h).2.2 y hy x (by simp), ih (a ++ [x]) (by rw [List.append_assoc]; exact h), List.append_assoc]
   rfl
 exact key l [] h
section
variable {K : List Cl} (G : Cx.Good K)
include G
theorem idsK_ids (d : Int) : idsK K d = idsOf K d := by rw [idsK_asc G.asc, G.ids]
theorem bdE_zz (d : Int) (i j : Nat) (hj : j < (idsOf K d).length) : bdE K zz zz d i j = entK K d i j := by
 unfold bdE
 rw [crit_zz, crit_zz, down_zz, known_self (bdD_in G _ _), G.bdD, Int.one_mul]
 unfold entK
 have hc : cellsK K = K := by
  unfold cellsK
  rw [ordK_asc G.asc, nub_asc (G.asc.map (fun x => ⟨x.id, x.dim, srtL x.s⟩) fun _ => rfl) none (fun _ _ e => by cases e)]
  conv => rhs; rw [← List.map_id K]
  refine List.map_congr_left fun x hx => ?_
  show (⟨x.id, x.dim, srtL x.s⟩ : Cl) = x
  rw [srtL_id ((G.sasc x hx).imp fun h => by omega)]
 rw [hc, idsK_ids G, idsK_ids G]
 have hm : (idsOf K d).getD j 0 ∈ idsOf K d := by
  rw [List.getD_eq_getElem?_getD, List.getElem?_eq_getElem hj]; exact List.getElem_mem _
 obtain ⟨x, hx, he, _⟩ := G.ids_mem.1 hm
 rw [← he, colS_eq G.asc hx]
 unfold sgn
 rw [sidesK_mem G.asc hx, se_sgL (G.sasc x hx)]
end
end Go.Cx
namespace Go.Proofs.YtlhicnfeajejhaaGreatDoor
open Go.RowKit Go.Cx
theorem kIds (v : Value) (K : List Cl) (w : World) (h : (Mok.cx K).holds v w) (hK : KOk K) (hl : K.length ≤ 1000) (G : Cx.Good K) (d : Int) : Calls Tryz.prog 19 #[v, .int .i64 d] w (Gvs (.idl (idsOf K d)) w) := by
 obtain ⟨x, l, rfl, h1, h2⟩ := h
 have hll : l.length ≤ 1000 := by rw [← h2, List.length_map] at hl; exact hl
 refine (smIds x l d w h1 (by omega) (fun y hy => Nat.le_trans (hK.cok h2 y hy).2.1 (by decide))).mono ?_
 rintro e w' ⟨r, rfl, hr, hb⟩
 rw [h2, idsK_ids G] at hr
 exact ⟨r, rfl, Sl.of_ownsRow hr, hb⟩
theorem kInts (v u : Value) (l : List Int) (w : World) (h : (Mok.idl l).holds v w) (k : (Mok.idl l).holds u w) : Calls Tryz.prog 56 #[v, u] w (Gvs .tt w) := by
 refine (smInts v u l l w h k).mono ?_
 rintro e w' ⟨q, rfl, hq, hb⟩
 exact ⟨_, rfl, congrArg Value.bool (hq.2 rfl), hb⟩
theorem kEq (v u : Value) (r c : Nat) (l : List Int) (w : World) (h : (Mok.mat r c l).holds v w) (k : (Mok.mat r c l).holds u w) (hr : r ≤ 200) (hc : c ≤ 200) (hl : l.length = r * c) : Calls Tryz.prog 53 #[v, u] w (Gvs .tt w) := by
 obtain ⟨x, rfl, hx⟩ := h
 obtain ⟨y, rfl, hy⟩ := k
 refine (mEqual r c x y l l w hx hy hr hc hl hl).mono ?_
 rintro e w' ⟨q, rfl, hq, hb⟩
 exact ⟨_, rfl, congrArg Value.bool (hq.2 rfl), hb⟩
def matL (K : List Cl) (d : Int) : List Int := (List.range ((idsOf K (d - 1)).length * (idsOf K d).length)).map fun t => entK K d (t / (idsOf K d).length) (t % (idsOf K d).length)
theorem matL_len (K : List Cl) (d : Int) : (matL K d).length = (idsOf K (d - 1)).length * (idsOf K d).length := by unfold matL; rw [List.length_map, List.length_range]
theorem ids_le {K : List Cl} (G : Cx.Good K) (d : Int) : (idsOf K d).length ≤ K.length := by
 rw [G.ids, List.length_map]; exact List.length_filter_le _ _
theorem kMtx (v : Value) (K : List Cl) (w : World) (h : (Mok.cx K).holds v w) (hK : KOk K) (hl : K.length ≤ 180) (G : Cx.Good K) (hs : ∀ x ∈ K, x.s.length ≤ 4) (d : Int) (hd0 : 0 ≤ d) (hd1 : d ≤ 1000) :
  Calls Tryz.prog 26 #[v, .int .i64 d] w (Gvs (.mat (idsOf K (d - 1)).length (idsOf K d).length (matL K d)) w) := by
 obtain ⟨x, l, rfl, h1, h2⟩ := h
 have hll : l.length ≤ 180 := by rw [← h2, List.length_map] at hl; exact hl
 have hm : ∀ y ∈ l, y.cl ∈ K := fun y hy => by rw [← h2]; exact List.mem_map_of_mem hy
 refine (mMatrix x l d w h1 hll (by rw [h2]; exact G.asc) (fun y hy => (hK.cok h2 y hy).1.1) (fun y hy => hs _ (hm y hy)) (fun y hy => G.sg _ (hm y hy)) hd0 hd1).mono ?_
 rintro e w' ⟨u, rfl, hu, hb⟩
 rw [h2, idsK_ids G, idsK_ids G] at hu
 exact ⟨_, rfl, ⟨u, by rw [h2, idsK_ids G, idsK_ids G], hu⟩, hb⟩
theorem crit_nil {K : List Cl} (G : Cx.Good K) (hc : chk K = (0, 0)) (d : Int) : critX K [] d = idsOf K d := by
 unfold critX
 rw [if_pos (opE_nil hc), G.cells.1]
 exact crit_zz K d
theorem down_nil {K : List Cl} (G : Cx.Good K) (hc : chk K = (0, 0)) (f : Int → Int) : downX K [] f = knownF K f := by
 unfold downX
 rw [if_pos (opE_nil hc), G.cells.1]
 exact down_zz K f
theorem up_nil {K : List Cl} (G : Cx.Good K) (hc : chk K = (0, 0)) {c : Int} (hh : hasK K c = true) : upX K [] c = dirac c 1 := by
 unfold upX
 rw [G.cells.1, if_pos ⟨opE_nil hc, hh, rfl⟩]
 exact up_zz K c
theorem kBndE (v u : Value) (K : List Cl) (w : World) (h : (Mok.cx K).holds v w) (k : (Mok.prs []).holds u w) (hK : KOk K) (hl : K.length ≤ 180) (G : Cx.Good K) (hc : chk K = (0, 0)) (d : Int) (hd0 : 0 ≤ d) (hd1 : d ≤ 1000) :
  Calls Tryz.prog 54 #[v, u, .int .i64 d] w (Gvs (.mat (idsOf K (d - 1)).length (idsOf K d).length (matL K d)) w) := by
 obtain ⟨x, l, rfl, h1, h2⟩ := h
 have hll : l.length ≤ 180 := by rw [← h2, List.length_map] at hl; exact hl
 refine (moBoundary x u l [] w h1 (by omega) (hK.cok h2) k (fun p hp => by cases hp) d ⟨by omega, by omega⟩).mono ?_
 rintro e w' ⟨hb, hr⟩
 rw [h2] at hr
 rcases hr with ⟨hne, _⟩ | ⟨_, E, nr, nc, rfl, rfl, rfl, _, hE, hEW⟩
 ·exact absurd (opE_nil hc) hne
 ·rw [crit_nil G hc, crit_nil G hc] at hEW ⊢
  have n1 := ids_le G (d - 1)
  have n2 := ids_le G d
  have hN : (idsOf K (d - 1)).length * (idsOf K d).length ≤ 40000 := Nat.le_trans (Nat.mul_le_mul (show _ ≤ 200 by omega) (show _ ≤ 200 by omega)) (by decide)
  refine ⟨_, rfl, ⟨_, rfl, ?_⟩, hb⟩
  have hs := (hEW.congr (g := fun t => entK K d (t / (idsOf K d).length) (t % (idsOf K d).length)) fun t ht => by
   have e1 : mhi K [] = zz := rfl
   have e2 : mlo K [] = zz := rfl
   rw [e1, e2, G.cells.1]
   have hpos : 0 < (idsOf K d).length := by
    rcases Nat.eq_zero_or_pos (idsOf K d).length with h0 | h0
    ·rw [h0, Nat.mul_zero] at ht; omega
    ·exact h0
   exact bdE_zz G d _ _ (Nat.mod_lt _ hpos)).sl (by omega)
  exact hs
end Go.Proofs.YtlhicnfeajejhaaGreatDoor
namespace Go.Proofs.YtlhicnfeajejhaaGreatDoor
open Go.RowKit Go.Cx
attribute [local go_sem ↓] Go.wp_at_zero Go.wp_at_succ
section
variable {P : Program} {Q : Exit → Act → World → Prop} {o : Oper} {a : Act} {w : World} {k : Mok}
theorem stm_pickF (c x y : Operand) (hop : o.op = .pick c x y) (hc : a.eval c = .bool false) (h : k.holds (a.eval y) w) : Stm P Q k o a w := by
 unfold Stm Oper.wp
 simp [execOp, hop, hc, asBool]
 exact ⟨_, rfl, h, Below.refl _ _⟩
theorem stm_not (x : Operand) (b : Bool) (hop : o.op = .unOp .not 4 x) (hc : a.eval x = .bool b) : Stm P Q (.val (.bool !b)) o a w :=
 do_unop _ _ _ hop _ hc (.bool !b) (by simp [Op.unary]) ⟨_, rfl, rfl, Below.refl _ _⟩
end
theorem ef_ref06_Ids : ∀ args w, (callFunc 19 args).run Tryz.prog w = .ok (.enter 19 args) w := enter_fn Tryz.func19 (by kernel_rfl) (by kernel_rfl)
theorem ef_ref06_Ints : ∀ args w, (callFunc 56 args).run Tryz.prog w = .ok (.enter 56 args) w := enter_fn Tryz.func56 (by kernel_rfl) (by kernel_rfl)
theorem ef_morse_Boundary : ∀ args w, (callFunc 54 args).run Tryz.prog w = .ok (.enter 54 args) w := enter_fn Tryz.func54 (by kernel_rfl) (by kernel_rfl)
theorem ef_ref06_Matrix0 : ∀ args w, (callFunc 26 args).run Tryz.prog w = .ok (.enter 26 args) w := enter_fn Tryz.func26 (by kernel_rfl) (by kernel_rfl)
theorem ef_ref02_Equal : ∀ args w, (callFunc 53 args).run Tryz.prog w = .ok (.enter 53 args) w := enter_fn Tryz.func53 (by kernel_rfl) (by kernel_rfl)
structure Emp (w W : World) (b : Nat) (x v1 : Value) (K : List Cl) (la : List Int) : Prop where
 bv : Bv W b x
 cx : (Mok.cx K).holds (.agg #[x]) W
 sl : Sl W 1 v1 (ints la)
 bl : Below w.heap.size w W
theorem Emp.keep {w W V : World} {b : Nat} {x v1 : Value} {K : List Cl} {la : List Int} (h : Emp w W b x v1 K la) (hb : Below W.heap.size W V) : Emp w V b x v1 K la :=
 ⟨h.bv.keep hb, Mok.keep h.cx hb, h.sl.keep hb, h.bl.trans (hb.mono h.bl.size)⟩
theorem moEmpty (v0 v1 : Value) (l la : List Int) (w : World) (h0 : Sl w 1 v0 (ints l)) (h1 : Sl w 1 v1 (ints la)) :
  Calls Tryz.prog 13 #[v0, v1] w fun e w' => e = .returned (.bool true) ∧ Below w.heap.size w w' := by
 obtain ⟨a0, k0, c0, rfl⟩ := sl_shape h0
 obtain ⟨a1, k1, c1, rfl⟩ := sl_shape h1
 have H := lhd (aiq h0 h1)
 clear h0 h1
 go_enter Tryz.func13, Tryz.ntmps13
 go_wp2_with fail
 refine (moSanity _).mono ?_
 rintro e w1 ⟨rfl, hb1⟩
 go_wp2_with fail
 refine (smSimplices _ l _ (H.out.1.keep hb1)).mono ?_
 rintro e w2 ⟨r, m, rfl, hm, hR, hb2⟩
 obtain ⟨ua, uc, hue⟩ := ownsRow_len hR.1
 subst hue
 have hB2 : Below w.heap.size w w2 := hb1.trans (hb2.mono hb1.size)
 have HC := lhd (aiq hm (aiq hR.slc hB2))
 clear hm hR hb1 hb2 hB2
 go_wp2_with fail
 obtain ⟨W0, hW0⟩ : ∃ W0, W0 = w2.alloc (.cells #[.slice ua m.length uc] 26) := ⟨_, rfl⟩
 obtain ⟨q, hq⟩ : ∃ q, q = w2.heap.size := ⟨_, rfl⟩
 obtain ⟨K, hK⟩ : ∃ K, K = simpN l := ⟨_, rfl⟩
 have hok := simpN_ok l
 have hG := good_simpN l
 have hchk := chk_simpN l
 have hs4 : ∀ x ∈ simpN l, x.s.length ≤ 4 := fun x hx => (simp_sgn l hx).1
 rw [← hK] at hok hG hchk hs4
 have hBw : Below w.heap.size w W0 := by rw [hW0]; exact HC.out.2.2.alloc HC.out.2.2.size _
 have E0 : Hid (Emp w W0 q (.slice ua m.length uc) (.slice a1 k1 c1) K la) := by
  refine ⟨?_, ?_, H.out.2.keep hBw, hBw⟩
  ·rw [hW0, hq]; exact Bv.new w2 _ _
  ·rw [hW0, hK]; exact ⟨_, m, rfl, HC.out.2.1.mono fun p u hc => keepAl hc _, HC.out.1⟩
 rw [← hW0, ← hq]
 have HK := lhd (aiq hok.1 (aiq hok.2.2 (aiq hG (aiq hchk hs4))))
 clear hW0 hq hK hok hG hchk hs4 hBw
 go_loopg [15] 5 (fun g i wr => ∃ d : Nat, d + g = 5 ∧ i = .int .i64 d ∧ Hid (Emp w wr q (.slice ua m.length uc) (.slice a1 k1 c1) K la))
 case atStart => exact ⟨0, rfl, rfl, E0.out⟩
 case round =>
  obtain ⟨d, hdg, rfl, HE⟩ := hrel
  cases gk with
  | zero =>
   have hd : d = 5 := by omega
   subst hd
   go_wp2_with fail
   go_ret
   exact ⟨rfl, HE.out.bl⟩
  | succ g =>
   have hd5 : d < 5 := by omega
   have b0 := HE.out.bv.1
   go_wp2_with fail
   refine (kCrit _ _ K [] wr HE.out.cx HK.out.1 (by have := HK.out.2.1; omega) (Sl.nil _ _) (fun p hp => by cases hp) d _ (crit_nil HK.out.2.2.1 HK.out.2.2.2.1 d)).mono ?_
   rintro e w3 ⟨r3, rfl, hr3, hb3⟩
   obtain ⟨a3, n3, c3, rfl⟩ := sl_shape hr3
   have E3 := lhd (HE.out.keep hb3)
   have HR3 := lhd hr3
   clear hr3 hb3 b0
   go_upto_region 7 with fail
   go_cut [36] from 21 to 35 (fun x wx => x = Value.bool false ∧ Hid (Below w3.heap.size w3 wx))
   case first =>
    rename_i J K2 hJ hK2
    have hbv1 := E3.out.bv
    have hk1 := E3.out.cx
    have hKok := HK.out.1
    have hKl := HK.out.2.1
    have hG := HK.out.2.2.1
    have hchk := HK.out.2.2.2.1
    have hs4 := HK.out.2.2.2.2
    have hi3 : (Mok.idl (idsOf K d)).holds (.slice a3 n3 c3) w3 := HR3.out
    have hM := matL_len K d
    have hn1 := ids_le hG ((d : Int) - 1)
    have hn2 := ids_le hG (d : Int)
    refine region_facts rfl (fun i v w => (([.idl (idsOf K d), .cx K, .val (.int .i64 d), .idl (idsOf K d), .tt, .val (.bool false), .val (.bool false), .cx K, .val (.int .i64 d), .mat (idsOf K (d - 1)).length (idsOf K d).length (matL K d), .cx K, .val (.int .i64 d), .mat (idsOf K (d - 1)).length (idsOf K d).length (matL K d), .tt, .val (.bool false), .val (.bool false)] : List Mok).getD i .any).holds v w) 63 rfl (by kernel_rfl) (by kernel_rfl) (fun i v w w' h hb => Mok.keep h hb) ?step ?done
    case step =>
     intro i o ho a w' hw hd hbase hsz
     match i, ho, hd with
     | 0, ho, hd =>
      obtain rfl := osi ho
      exact ⟨rfl, stm_move _ (.inl rfl) (by show (Mok.idl (idsOf K d)).holds (a.tmps.getD 8 undef) w'; rw [hbase 8 (noDst_spec (by kernel_rfl))]; exact Mok.keep (k := .idl (idsOf K d)) hi3 hw)⟩
     | 1, ho, hd =>
      obtain rfl := osi ho
      exact ⟨rfl, stm_load _ _ rfl _ (hbase 6 (noDst_spec (by kernel_rfl))) _ (ldK (hbv1.keep hw)) (Mok.keep (k := .cx K) hk1 hw)⟩
     | 2, ho, hd =>
      obtain rfl := osi ho
      exact ⟨rfl, stm_move _ (.inl rfl) (hbase 7 (noDst_spec (by kernel_rfl)))⟩
     | 3, ho, hd =>
      obtain rfl := osi ho
      have f0 : (Mok.cx K).holds (a.tmps.getD 22 undef) w' := hd 1 _ _ rfl rfl (by kernel_rfl)
      have f1 : a.tmps.getD 23 undef = .int .i64 d := hd 2 _ _ rfl rfl (by kernel_rfl)
      exact ⟨rfl, stm_call _ _ _ rfl ef_ref06_Ids #[a.tmps.getD 22 undef, .int .i64 d] (by rw [← f1]; simp [Act.eval]) (kIds _ K _ f0 hKok (by omega) hG d)⟩
     | 4, ho, hd =>
      obtain rfl := osi ho
      have f0 : (Mok.idl (idsOf K d)).holds (a.tmps.getD 21 undef) w' := hd 0 _ _ rfl rfl (by kernel_rfl)
      have f1 : (Mok.idl (idsOf K d)).holds (a.tmps.getD 24 undef) w' := hd 3 _ _ rfl rfl (by kernel_rfl)
      exact ⟨rfl, stm_call _ _ _ rfl ef_ref06_Ints #[a.tmps.getD 21 undef, a.tmps.getD 24 undef] (by simp [Act.eval]) (kInts _ _ _ _ f0 f1)⟩
     | 5, ho, hd =>
      obtain rfl := osi ho
      have f0 : a.tmps.getD 25 undef = .bool true := hd 4 _ _ rfl rfl (by kernel_rfl)
      exact ⟨rfl, stm_not _ true rfl f0⟩
     | 6, ho, hd =>
      obtain rfl := osi ho
      have f0 : a.tmps.getD 26 undef = .bool false := hd 5 _ _ rfl rfl (by kernel_rfl)
      exact ⟨rfl, stm_move _ (.inl rfl) f0⟩
     | 7, ho, hd =>
      obtain rfl := osi ho
      have fg : a.tmps.getD 27 undef = .bool false := hd 6 _ _ rfl rfl (by kernel_rfl)
      exact ⟨wanted_ff 6 27 rfl rfl (by rw [hsz]; decide) fg, stm_load _ _ rfl _ (hbase 6 (noDst_spec (by kernel_rfl))) _ (ldK (hbv1.keep hw)) (Mok.keep (k := .cx K) hk1 hw)⟩
     | 8, ho, hd =>
      obtain rfl := osi ho
      have fg : a.tmps.getD 27 undef = .bool false := hd 6 _ _ rfl rfl (by kernel_rfl)
      exact ⟨wanted_ff 6 27 rfl rfl (by rw [hsz]; decide) fg, stm_move _ (.inl rfl) (hbase 7 (noDst_spec (by kernel_rfl)))⟩
     | 9, ho, hd =>
      obtain rfl := osi ho
      have fg : a.tmps.getD 27 undef = .bool false := hd 6 _ _ rfl rfl (by kernel_rfl)
      have f0 : (Mok.cx K).holds (a.tmps.getD 28 undef) w' := hd 7 _ _ rfl rfl (by kernel_rfl)
      have f1 : a.tmps.getD 29 undef = .int .i64 d := hd 8 _ _ rfl rfl (by kernel_rfl)
      exact ⟨wanted_ff 6 27 rfl rfl (by rw [hsz]; decide) fg, stm_call _ _ _ rfl ef_morse_Boundary #[a.tmps.getD 28 undef, .slice none 0 0, .int .i64 d] (by rw [← f1]; simp [Act.eval]) (kBndE _ _ K _ f0 (Sl.nil _ _) hKok hKl hG hchk d (by omega) (by omega))⟩
     | 10, ho, hd =>
      obtain rfl := osi ho
      have fg : a.tmps.getD 27 undef = .bool false := hd 6 _ _ rfl rfl (by kernel_rfl)
      exact ⟨wanted_ff 6 27 rfl rfl (by rw [hsz]; decide) fg, stm_load _ _ rfl _ (hbase 6 (noDst_spec (by kernel_rfl))) _ (ldK (hbv1.keep hw)) (Mok.keep (k := .cx K) hk1 hw)⟩
     | 11, ho, hd =>
      obtain rfl := osi ho
      have fg : a.tmps.getD 27 undef = .bool false := hd 6 _ _ rfl rfl (by kernel_rfl)
      exact ⟨wanted_ff 6 27 rfl rfl (by rw [hsz]; decide) fg, stm_move _ (.inl rfl) (hbase 7 (noDst_spec (by kernel_rfl)))⟩
     | 12, ho, hd =>
      obtain rfl := osi ho
      have fg : a.tmps.getD 27 undef = .bool false := hd 6 _ _ rfl rfl (by kernel_rfl)
      have f0 : (Mok.cx K).holds (a.tmps.getD 31 undef) w' := hd 10 _ _ rfl rfl (by kernel_rfl)
      have f1 : a.tmps.getD 32 undef = .int .i64 d := hd 11 _ _ rfl rfl (by kernel_rfl)
      exact ⟨wanted_ff 6 27 rfl rfl (by rw [hsz]; decide) fg, stm_call _ _ _ rfl ef_ref06_Matrix0 #[a.tmps.getD 31 undef, .int .i64 d] (by rw [← f1]; simp [Act.eval]) (kMtx _ K _ f0 hKok hKl hG hs4 d (by omega) (by omega))⟩
     | 13, ho, hd =>
      obtain rfl := osi ho
      have fg : a.tmps.getD 27 undef = .bool false := hd 6 _ _ rfl rfl (by kernel_rfl)
      have f0 : (Mok.mat (idsOf K (d - 1)).length (idsOf K d).length (matL K d)).holds (a.tmps.getD 30 undef) w' := hd 9 _ _ rfl rfl (by kernel_rfl)
      have f1 : (Mok.mat (idsOf K (d - 1)).length (idsOf K d).length (matL K d)).holds (a.tmps.getD 33 undef) w' := hd 12 _ _ rfl rfl (by kernel_rfl)
      exact ⟨wanted_ff 6 27 rfl rfl (by rw [hsz]; decide) fg, stm_call _ _ _ rfl ef_ref02_Equal #[a.tmps.getD 30 undef, a.tmps.getD 33 undef] (by simp [Act.eval]) (kEq _ _ _ _ _ _ f0 f1 (by omega) (by omega) hM)⟩
     | 14, ho, hd =>
      obtain rfl := osi ho
      have fg : a.tmps.getD 27 undef = .bool false := hd 6 _ _ rfl rfl (by kernel_rfl)
      have f0 : a.tmps.getD 34 undef = .bool true := hd 13 _ _ rfl rfl (by kernel_rfl)
      exact ⟨wanted_ff 6 27 rfl rfl (by rw [hsz]; decide) fg, stm_not _ true rfl f0⟩
     | 15, ho, hd =>
      obtain rfl := osi ho
      have f0 : a.tmps.getD 27 undef = .bool false := hd 6 _ _ rfl rfl (by kernel_rfl)
      have f1 : a.tmps.getD 35 undef = .bool false := hd 14 _ _ rfl rfl (by kernel_rfl)
      exact ⟨rfl, stm_pickF _ _ _ rfl f0 f1⟩
     | i + 16, ho, hd =>
      have : i + 16 < 16 := (Array.getElem?_eq_some_iff.1 ho).1
      omega
    case done =>
     intro a w7 hsz hdf hf hbase hw
     have ht : a.tmps.getD 36 undef = .bool false := hf 15 _ _ rfl rfl
     refine hK2 _ _ (Met.intro (hJ _ _ ⟨a.tmps.getD 21 undef, a.tmps.getD 22 undef, a.tmps.getD 23 undef, a.tmps.getD 24 undef, a.tmps.getD 25 undef, a.tmps.getD 26 undef, a.tmps.getD 27 undef, a.tmps.getD 28 undef, a.tmps.getD 29 undef, a.tmps.getD 30 undef, a.tmps.getD 31 undef, a.tmps.getD 32 undef, a.tmps.getD 33 undef, a.tmps.getD 34 undef, a.tmps.getD 35 undef, a.tmps.getD 36 undef, ⟨ht, lhd hw⟩, (act_lit hsz hdf hbase).trans ?_⟩))
     kernel_rfl
   case rest =>
    obtain ⟨rfl, HB⟩ := hcut
    have E4 := lhd (E3.out.keep HB.out)
    have b4 := E4.out.bv.1
    have hs4v := E4.out.sl
    clear hs4v
    go_wp2_with fail
    refine (svMadeF _ _ K d la wc.heap.size wc E4.out.cx E4.out.sl HK.out.1 HK.out.2.1 (nlr _)).mono ?_
    rintro e w5 ⟨r5, L5, rfl, hCn, hLl, hLO, hLK, hr5, hb5⟩
    obtain ⟨a5, n5, c5, rfl⟩ := sl_shape (Sl.of_ownsRow hr5)
    have E5 := lhd (E4.out.keep hb5)
    have b5 := E5.out.bv.1
    have hch : (Mok.ch L5).holds (.slice a5 n5 c5) w5 := Sl.of_ownsRow hr5
    have hkn : downX K [] (co L5) = co L5 := by
     rw [down_nil HK.out.2.2.1 HK.out.2.2.2.1]
     refine known_self fun c hc => ?_
     obtain ⟨p, hp, rfl, _⟩ := co_pos hc
     obtain ⟨y, hy, he, _⟩ := hLK p hp
     exact he ▸ List.mem_map_of_mem hy
    have HL5 := lhd (aiq hCn (aiq hLl (aiq hLO (aiq hch hkn))))
    have HB5 := lhd hb5
    clear hCn hLl hLO hLK hr5 hb5 hch hkn b4
    go_wp2_with fail
    refine (kDown _ _ K [] w5 E5.out.cx HK.out.1 (by have := HK.out.2.1; omega) (Sl.nil _ _) (fun p hp => by cases hp) _ L5 L5 HL5.out.2.2.2.1 (fun p hp => ⟨(HL5.out.2.2.1 p hp).1, Nat.le_trans (HL5.out.2.2.1 p hp).2 (by omega)⟩) (by have := HL5.out.2.1; omega) HL5.out.1 HL5.out.2.2.2.2).mono ?_
    rintro e w6 ⟨r6, rfl, hr6, hb6⟩
    obtain ⟨a6, n6, c6, rfl⟩ := sl_shape hr6
    have HR6 := lhd (aiq hr6 hb6)
    clear hr6 hb6 b5
    go_wp2_with fail
    refine (kSame _ _ L5 w6 HR6.out.1 (Mok.keep (k := .ch L5) HL5.out.2.2.2.1 HR6.out.2)).mono ?_
    rintro e w7 ⟨r7, rfl, hr7, hb7⟩
    have hr7 : r7 = .bool true := hr7
    subst hr7
    have E7 := lhd ((E5.out.keep HR6.out.2).keep hb7)
    have hi7 : Sl w7 1 (.slice a3 n3 c3) (ints (idsOf K d)) := Sl.keep (Sl.keep (Sl.keep (Sl.keep HR3.out HB.out) HB5.out) HR6.out.2) hb7
    have hn3 : (idsOf K d).length = n3 := by
     obtain ⟨_, _, _, he, _, _, h3, _⟩ := hi7
     cases he
     rw [ints_len] at h3; omega
    have hn3l : n3 ≤ 180 := by rw [← hn3]; exact Nat.le_trans (ids_le HK.out.2.2.1 _) HK.out.2.1
    have HI7 := lhd (aiq hi7 hn3)
    clear hb7 hi7 hn3
    go_wp2_with fail
    go_loopg [49] n3 (fun gi i wx => ∃ j : Nat, j + gi = n3 ∧ i = .int .i64 j ∧ Below w7.heap.size w7 wx)
    case atStart => exact ⟨0, by omega, rfl, Below.refl _ _⟩
    case round =>
     obtain ⟨j, hjg, rfl, hBj⟩ := hrel
     have EJ := lhd (E7.out.keep hBj)
     cases gk with
     | zero =>
      have hj : ¬ ((j : Int) < (n3 : Int)) := by omega
      clear hBj
      go_wp2_with fail
      go_roundg g
      case measure => omega
      case rel => exact ⟨d + 1, by omega, i64_eq (by omega), EJ.out⟩
     | succ gj =>
      have hjn : j < n3 := by omega
      obtain ⟨_, _, _, he0, y1, y2, y3, y4, y5⟩ := Sl.keep HI7.out.1 hBj
      cases he0
      obtain ⟨ad, rfl⟩ : ∃ ad, a3 = some ad := by
       cases a3 with
       | none => have := y4 rfl; omega
       | some ad => exact ⟨ad, rfl⟩
      obtain ⟨id, hid⟩ : ∃ id, (idsOf K d)[j]? = some id := ⟨_, List.getElem?_eq_getElem (by rw [HI7.out.2]; exact hjn)⟩
      have d0 : wr.cell? (ad.add j) = some (.int .i64 id) := y5 ad rfl _ _ (by simp [ints, hid])
      have bj := EJ.out.bv.1
      obtain ⟨y, hy, hye, _⟩ := HK.out.2.2.1.ids_mem.1 (List.mem_of_getElem? hid)
      have hidI : I64 id := by rw [← hye]; exact (HK.out.1 y hy).1.1
      have hhas : hasK K id = true := List.any_eq_true.2 ⟨y, hy, by simp [hye]⟩
      have hup : upX K [] id = co [(id, 1)] := by rw [up_nil HK.out.2.2.1 HK.out.2.2.2.1 hhas, co_one]
      have HJ := lhd (aiq hidI (aiq hup hBj))
      clear y1 y2 y3 y4 y5 hid hy hye hidI hhas hup hBj
      go_wp2_with fail
      refine (kUp _ _ K [] wr EJ.out.cx HK.out.1 (by have := HK.out.2.1; omega) (Sl.nil _ _) (fun p hp => by cases hp) id HJ.out.1 [(id, 1)] (by unfold Cn; simp) HJ.out.2.1).mono ?_
      rintro e w8 ⟨r8, rfl, hr8, hb8⟩
      obtain ⟨a8, n8, c8, rfl⟩ := sl_shape hr8
      have HR8 := lhd (aiq hr8 hb8)
      clear hr8 hb8 bj d0
      go_wp2_with fail
      refine (kOne id w8).mono ?_
      rintro e w9 ⟨r9, rfl, hr9, hb9⟩
      obtain ⟨a9, n9, c9, rfl⟩ := sl_shape hr9
      have HR9 := lhd (aiq hr9 hb9)
      clear hr9 hb9
      go_wp2_with fail
      refine (kSame _ _ [(id, 1)] w9 (Mok.keep (k := .ch [(id, 1)]) HR8.out.1 HR9.out.2) HR9.out.1).mono ?_
      rintro e w10 ⟨r10, rfl, hr10, hb10⟩
      have hr10 : r10 = .bool true := hr10
      subst hr10
      have HB10 := lhd hb10
      clear hb10
      go_wp2_with fail
      go_roundg gj
      case measure => omega
      case rel =>
       have hB9 : Below wr.heap.size wr w9 := HR8.out.2.trans (HR9.out.2.mono HR8.out.2.size)
       have hB10 : Below wr.heap.size wr w10 := hB9.trans (HB10.out.mono hB9.size)
       exact ⟨j + 1, by omega, i64_eq (by omega), HJ.out.2.2.trans (hB10.mono HJ.out.2.2.size)⟩
end Go.Proofs.YtlhicnfeajejhaaGreatDoor
