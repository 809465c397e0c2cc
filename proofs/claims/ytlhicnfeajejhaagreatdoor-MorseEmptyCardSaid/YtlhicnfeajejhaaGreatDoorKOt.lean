/- cocycleref04: Mod, List at size 5. chains: Of. cocycleref06: at (where it is there), index. cocycleref02: fits, Zero. Rows of Wides that are .. -/
import Derived.Test.YtlhicnfeajejhaaGreatDoorKOq
import Derived.Test.YtlhicnfeajejhaaGreatDoorKOr
set_option maxRecDepth 1000000
set_option maxHeartbeats 16000000
namespace Go.Proofs.YtlhicnfeajejhaaGreatDoor
open Go.RowKit Go.Cx
attribute [local go_sem ↓] Go.wp_at_zero Go.wp_at_succ
theorem co_snoc (L : List (Int × Int)) (p : Int × Int) (c : Int) : co (L ++ [p]) c = co L c + if p.1 = c then p.2 else 0 := by
 rw [co_append]; show _ + ((if p.1 = c then p.2 else 0) + 0) = _; rw [Int.add_zero]
theorem smAt (v : Value) (l : List Ce) (i0 : Nat) (x0 : Ce) (w : World) (h : Sl w 3 v (cat Ce.enc l)) (hl : l.length ≤ 1000000) (hs : l.Pairwise fun x y => x.id < y.id) (hx0 : l[i0]? = some x0) :
  Calls Tryz.prog 84 #[v, .int .i64 x0.id] w fun e w' => e = .returned (.int .i64 i0) ∧ Below w.heap.size w w' := by
 obtain ⟨a, n, cap, rfl⟩ := sl_shape h
 have hlen : l.length = n := by
  obtain ⟨_, _, h3, _⟩ := h.open
  rw [cat_len Ce.enc_len] at h3; omega
 have hi0 : i0 < n := by
  have := (List.getElem?_eq_some_iff.1 hx0).1
  omega
 obtain ⟨hc1, hc2, _⟩ := h.open
 unfold maxLen at hc2
 rw [hlen] at hl
 obtain ⟨id, hid⟩ : ∃ d, d = x0.id := ⟨_, rfl⟩
 have hlt : ∀ (j : Nat) (y : Ce), l[j]? = some y → (j < i0 → y.id < id) ∧ (i0 < j → id < y.id) := fun j y hy => by
  obtain ⟨hj, hje⟩ := List.getElem?_eq_some_iff.1 hy
  obtain ⟨hk, hke⟩ := List.getElem?_eq_some_iff.1 hx0
  rw [hid]
  refine ⟨fun h => ?_, fun h => ?_⟩
  ·have := List.pairwise_iff_getElem.1 hs j i0 hj hk h
   rwa [hje, hke] at this
  ·have := List.pairwise_iff_getElem.1 hs i0 j hk hj h
   rwa [hje, hke] at this
 rw [← hid]
 have HH := lhd (aiq h (aiq hlen (aiq hlt (aiq hx0 hid))))
 clear h hlen hlt hs hx0 hid
 go_enter Tryz.func84, Tryz.ntmps84
 go_wp2_with fail
 go_loopw [5, 6] (fun p q wr => ∃ lo hi : Nat, p = .int .i64 lo ∧ q = .int .i64 hi ∧ lo ≤ i0 ∧ i0 ≤ hi ∧ hi ≤ n ∧ Below w.heap.size w wr) (fun p q _ => (vI q).toNat - (vI p).toNat)
 case atStart => exact ⟨0, n, rfl, rfl, Nat.zero_le _, by omega, nlr _, Below.refl _ _⟩
 case round =>
  obtain ⟨lo, hi, rfl, rfl, h1, h2, h3, hB⟩ := hrel
  obtain ⟨ad, hade⟩ : ∃ ad, a = some ad := by
   cases a with
   | none => have := HH.out.1.open.2.2.2.1 rfl; omega
   | some ad => exact ⟨ad, rfl⟩
  subst hade
  obtain ⟨_, _, _, _, h6⟩ := HH.out.1.open
  by_cases hlh : lo < hi
  ·obtain ⟨m, hm⟩ : ∃ m, m = (lo + hi) / 2 := ⟨_, rfl⟩
   have hm1 : lo ≤ m ∧ m < hi := by omega
   obtain ⟨y, hy⟩ : ∃ y, l[m]? = some y := ⟨_, List.getElem?_eq_getElem (by rw [HH.out.2.1]; omega)⟩
   have d0 : wr.cell? (ad.add (m * 3)) = some (.int .i64 y.id) := Cx.keep hB (h6 ad rfl _ _ (ce_get l m y hy).1)
   have hsum : IntKind.i64.wrap ((lo : Int) + hi) = (lo : Int) + hi := IntWalk.i64_in _ (by omega)
   have hq : ((lo : Int) + hi).tdiv 2 = (m : Int) := by rw [Int.tdiv_eq_ediv_of_nonneg (by omega)]; omega
   have hq2 : ((lo : Int) + hi) / 2 = (m : Int) := by omega
   have hmI : (m : Int) < n := by omega
   have hwm : IntKind.i64.wrap (m : Int) = (m : Int) := IntWalk.i64_in _ (by omega)
   have HY := lhd (HH.out.2.2.1 m y hy)
   have HYY := lhd hy
   clear h6 hy hm
   by_cases hc : y.id < id
   ·have hmi : m < i0 := by
     rcases Nat.lt_trichotomy m i0 with h | h | h
     ·exact h
     ·have hy2 := HYY.out
      rw [h, HH.out.2.2.2.1] at hy2
      cases hy2
      rw [HH.out.2.2.2.2] at hc
      omega
     ·have := HY.out.2 h; omega
    go_wp2
    go_roundw
    case measure => simp [vI]; omega
    case rel => exact ⟨m + 1, hi, i64_eq (by omega), rfl, by omega, h2, h3, hB⟩
   ·have hmi : i0 ≤ m := by
     rcases Nat.lt_or_ge m i0 with h | h
     ·have := HY.out.1 h; omega
     ·exact h
    go_wp2
    go_roundw
    case measure => simp [vI]; omega
    case rel => exact ⟨lo, m, rfl, rfl, h1, hmi, by omega, hB⟩
  ·have hle : lo = i0 := by omega
   subst hle
   have d0 : wr.cell? (ad.add (lo * 3)) = some (.int .i64 id) := Cx.keep hB (h6 ad rfl _ _ (by rw [HH.out.2.2.2.2]; exact (ce_get l lo x0 HH.out.2.2.2.1).1))
   have hln : (lo : Int) < n := by omega
   have hbb : (id == id) = true := by simp
   clear h6
   go_wp2
   go_ret
   exact ⟨rfl, hB⟩
theorem smIndex (v : Value) (l : List Int) (x : Int) (w : World) (h : Sl w 1 v (ints l)) (hl : l.length ≤ 1000000) :
  Calls Tryz.prog 85 #[v, .int .i64 x] w fun e w' => ∃ z : Int, e = .returned (.int .i64 z) ∧ ((z = -1 ∧ x ∉ l) ∨ ∃ i : Nat, z = i ∧ l[i]? = some x) ∧ Below w.heap.size w w' := by
 obtain ⟨a, n, cap, rfl⟩ := sl_shape h
 have hlen : l.length = n := by
  obtain ⟨_, _, h3, _⟩ := h.open
  rw [ints_len] at h3; omega
 obtain ⟨hc1, hc2, _⟩ := h.open
 unfold maxLen at hc2
 rw [hlen] at hl
 have HH := lhd (aiq h hlen)
 clear h hlen
 go_enter Tryz.func85, Tryz.ntmps85
 go_wp2_with fail
 go_loopw [5] (fun p wr => ∃ k : Nat, p = .int .i64 k ∧ k ≤ n ∧ Hid (∀ j, j < k → l[j]? ≠ some x) ∧ Below w.heap.size w wr) (fun p _ => n - (vI p).toNat)
 case atStart => exact ⟨0, rfl, Nat.zero_le _, (show Hid _ from fun j hj => by omega), Below.refl _ _⟩
 case round =>
  obtain ⟨k, rfl, hk, HK, hB⟩ := hrel
  by_cases hlt : k < n
  ·obtain ⟨y, hy⟩ : ∃ y, l[k]? = some y := ⟨_, List.getElem?_eq_getElem (by rw [HH.out.2]; omega)⟩
   obtain ⟨_, _, _, h5, h6⟩ := HH.out.1.open
   obtain ⟨ad, hade⟩ : ∃ ad, a = some ad := by
    cases a with
    | none => have := h5 rfl; omega
    | some ad => exact ⟨ad, rfl⟩
   subst hade
   have d0 : wr.cell? (ad.add k) = some (.int .i64 y) := Cx.keep hB (h6 ad rfl _ _ (by rw [ints_get _ _ (by rw [HH.out.2]; exact hlt), List.getD_eq_getElem?_getD, hy]; rfl))
   have HY := lhd hy
   clear h5 h6 hy
   by_cases he : y = x
   ·have hb : (y == x) = true := by simpa using he
    have HE := lhd he
    clear he
    go_wp2
    go_ret
    exact ⟨_, rfl, .inr ⟨k, rfl, by rw [HY.out, HE.out]⟩, hB⟩
   ·have hb : (y == x) = false := by simpa using he
    have HE := lhd he
    clear he
    go_wp2
    go_roundw
    case measure => simp [vI]; omega
    case rel =>
     refine ⟨k + 1, i64_eq (by omega), by omega, (show Hid _ from fun j hj => ?_), hB⟩
     rcases Nat.lt_or_ge j k with h | h
     ·exact HK.out j h
     ·rw [show j = k by omega, HY.out]
      exact fun e => HE.out (osi e)
  ·go_wp2
   go_ret
   refine ⟨_, rfl, .inl ⟨rfl, fun hx => ?_⟩, hB⟩
   obtain ⟨j, hj, hje⟩ := List.getElem_of_mem hx
   exact HK.out j (by rw [HH.out.2] at hj; omega) (by rw [List.getElem?_eq_getElem hj, hje])
theorem mFits (a b : Nat) (w : World) (ha : a ≤ 200) (hb : b ≤ 200) : Calls Tryz.prog 125 #[.int .i64 a, .int .i64 b] w fun e w' => e = .returned (.bool true) ∧ Below w.heap.size w w' := by
 have h1 : (0 : Int) ≤ a := by omega
 have h2 : (0 : Int) ≤ b := by omega
 have h3 : (a : Int) ≤ 200 := by omega
 have h4 : (b : Int) ≤ 200 := by omega
 go_enter Tryz.func125, Tryz.ntmps125
 go_wp2
 go_ret
 exact ⟨rfl, Below.refl _ _⟩
def EW (w : World) (E N : Nat) (f : Nat → Int) : Prop := ∀ i, i < N → w.cell? ⟨E, i * 2, none⟩ = some (.bool (decide (f i < 0))) ∧ w.cell? ⟨E, i * 2 + 1, none⟩ = some (.string (mg (f i))) ∧ w.frozen? ⟨E, i * 2, none⟩ = false ∧ w.frozen? ⟨E, i * 2 + 1, none⟩ = false
theorem EW.keep {w w' : World} {B E N : Nat} {f : Nat → Int} (h : EW w E N f) (hb : Below B w w') (hE : E < B) : EW w' E N f := fun i hi =>
 have h := h i hi
 ⟨(hb.cell (by exact hE)).trans h.1, (hb.cell (by exact hE)).trans h.2.1, (hb.frozen (by exact hE)).trans h.2.2.1, (hb.frozen (by exact hE)).trans h.2.2.2⟩
theorem EW.put {w : World} {E N : Nat} {f : Nat → Int} (h : EW w E N f) (k : Nat) (x : Int) : EW ((w.setCell ⟨E, k * 2, none⟩ (.bool (decide (x < 0)))).setCell ⟨E, k * 2 + 1, none⟩ (.string (mg x))) E N (fun i => if i = k then x else f i) := fun i hi => by
 obtain ⟨h1, h2, h3, h4⟩ := h i hi
 refine ⟨?_, ?_, by simpa [World.frozen?_setCell] using h3, by simpa [World.frozen?_setCell] using h4⟩
 ·dsimp only
  by_cases hik : i = k
  ·subst hik
   simp only [↓reduceIte]
   exact cell_setC (World.cell?_setCell_same' _ _ _ (by rw [h1]; rfl)) (by simp)
  ·simp only [hik, ↓reduceIte]
   exact cell_setC (cell_setC h1 (by simp <;> omega)) (by simp <;> omega)
 ·dsimp only
  by_cases hik : i = k
  ·subst hik
   simp only [↓reduceIte]
   exact World.cell?_setCell_same' _ _ _ (by rw [cell_setC h2 (by simp)]; rfl)
  ·simp only [hik, ↓reduceIte]
   exact cell_setC (cell_setC h2 (by simp <;> omega)) (by simp <;> omega)
theorem EW.congr {w : World} {E N : Nat} {f g : Nat → Int} (h : EW w E N f) (hfg : ∀ i, i < N → f i = g i) : EW w E N g := fun i hi => by rw [← hfg i hi]; exact h i hi
theorem wvs_at (l : List Int) (j : Nat) (u : Value) (h : (wvs l)[j]? = some u) : ∃ x, l[j / 2]? = some x ∧ ((j % 2 = 0 ∧ u = .bool (decide (x < 0))) ∨ (j % 2 = 1 ∧ u = .string (mg x))) := by
 have hj : j < l.length * 2 := by
  have := (List.getElem?_eq_some_iff.1 h).1
  rwa [wvs_len] at this
 obtain ⟨x, hx⟩ : ∃ x, l[j / 2]? = some x := ⟨_, List.getElem?_eq_getElem (by omega)⟩
 obtain ⟨e0, e1⟩ := wvs_get l (j / 2) x hx
 refine ⟨x, hx, ?_⟩
 rcases Nat.mod_two_eq_zero_or_one j with hm | hm
 ·rw [show j / 2 * 2 = j by omega, h] at e0
  exact .inl ⟨hm, osi e0⟩
 ·rw [show j / 2 * 2 + 1 = j by omega, h] at e1
  exact .inr ⟨hm, osi e1⟩
theorem EW.sl {w : World} {E N : Nat} {f : Nat → Int} (h : EW w E N f) (hN : N ≤ 1000000) : Sl w 2 (.slice (some ⟨E, 0, none⟩) N N) (wvs ((List.range N).map f)) := by
 refine ⟨some ⟨E, 0, none⟩, N, N, rfl, nlr _, by unfold maxLen; omega, by rw [wvs_len]; simp, fun e => (by cases e), fun ad had j u hj => ?_⟩
 cases had
 have hjl : j < N * 2 := by
  have := (List.getElem?_eq_some_iff.1 hj).1
  rw [wvs_len] at this
  simpa using this
 obtain ⟨x, hx, hu⟩ := wvs_at _ j u hj
 rw [List.getElem?_map, List.getElem?_range (by omega)] at hx
 obtain rfl : f (j / 2) = x := osi hx
 have hadd : (⟨E, 0, none⟩ : Addr).add j = ⟨E, j, none⟩ := by simp [Addr.add]; intro h; omega
 rw [hadd]
 obtain ⟨g1, g2, _⟩ := h (j / 2) (by omega)
 rcases hu with ⟨hm, rfl⟩ | ⟨hm, rfl⟩
 ·rw [show (⟨E, j, none⟩ : Addr) = ⟨E, j / 2 * 2, none⟩ by congr 1; omega]; exact g1
 ·rw [show (⟨E, j, none⟩ : Addr) = ⟨E, j / 2 * 2 + 1, none⟩ by congr 1; omega]; exact g2
def wz (n : Nat) : Array Value := madeCells #[.bool false, .string ⟨#[]⟩] (n * 2)
theorem wz_get (n i : Nat) (h : i < n) : (wz n)[i * 2]? = some (.bool false) ∧ (wz n)[i * 2 + 1]? = some (.string ⟨#[]⟩) := by
 unfold wz madeCells
 refine ⟨?_, ?_⟩
 ·rw [Array.getElem?_map, Array.getElem?_range, if_pos (by omega)]
  simp
 ·rw [Array.getElem?_map, Array.getElem?_range, if_pos (by omega)]
  simp [show (i * 2 + 1) % 2 = 1 by omega]
theorem EW.new (w : World) (n : Nat) (t : TypeId) : EW (w.alloc (.cells (wz n) t)) w.heap.size n (fun _ => 0) := fun i hi => by
 obtain ⟨h1, h2⟩ := wz_get n i hi
 exact ⟨by rw [cell_new, h1]; rfl, by rw [cell_new, h2, Cx.mg_zero], free_at (heap_alloc_new w _) _, free_at (heap_alloc_new w _) _⟩
theorem makeW (n : Nat) (hn : n ≤ 1000000) (w : World) : (Instr.makeSlice 29 (.int .i64 (n : Int)) (.int .i64 (n : Int))).run Tryz.prog w = .ok (.slice (some ⟨w.heap.size, 0, none⟩) n n) (w.alloc (.cells (wz n) 38)) := by
 obtain ⟨i, hi, hz⟩ := Option.map_eq_some_iff.1 Tryz.infoW2
 simp only [Prod.mk.injEq] at hz
 have h := run_make (P := Tryz.prog) w 29 38 i _ Tryz.underlying29 hi hz.1 .i64 .i64 n n (by omega) (Int.le_refl _) (by rw [hz.2.2]; omega) (by omega)
 rw [hz.2.1, Int.toNat_natCast] at h
 exact h
theorem mZero (r c : Nat) (w : World) (hr : r ≤ 200) (hc : c ≤ 200) : Calls Tryz.prog 69 #[.int .i64 r, .int .i64 c] w fun e w' => ∃ E : Nat, e = .returned (.agg #[.int .i64 r, .int .i64 c, .slice (some ⟨E, 0, none⟩) (r * c) (r * c)]) ∧ w.heap.size ≤ E ∧ E < w'.heap.size ∧ EW w' E (r * c) (fun _ => 0) ∧ Below w.heap.size w w' := by
 have hrc : r * c ≤ 40000 := Nat.le_trans (Nat.mul_le_mul hr hc) (by decide)
 have hmk := makeW (r * c) (by omega)
 have hw1 : IntKind.i64.wrap ((r : Int) * (c : Int)) = ((r * c : Nat) : Int) := by
  rw [Int.natCast_mul]; exact IntWalk.i64_in _ (by rw [← Int.natCast_mul]; omega)
 obtain ⟨N, hN⟩ : ∃ N, N = r * c := ⟨_, rfl⟩
 rw [← hN] at hmk hw1 hrc ⊢
 clear hN
 go_enter Tryz.func69, Tryz.ntmps69
 go_wp2_with fail
 refine (mFits r c _ hr hc).mono ?_
 rintro e w1 ⟨rfl, hb1⟩
 obtain ⟨W, hW⟩ : ∃ W, W = w.alloc (.cells #[.int .i64 0, .int .i64 0, .slice none 0 0] 44) := ⟨_, rfl⟩
 rw [← hW] at hb1
 have c0 : W.cell? ⟨w.heap.size, 0, none⟩ = some (.int .i64 0) := by rw [hW]; exact cell_new w _ _ (0, 0) 0
 have c1 : W.cell? ⟨w.heap.size, 1, none⟩ = some (.int .i64 0) := by rw [hW]; exact cell_new w _ _ (0, 0) 1
 have c2 : W.cell? ⟨w.heap.size, 2, none⟩ = some (.slice none 0 0) := by rw [hW]; exact cell_new w _ _ (0, 0) 2
 have z0 : W.frozen? ⟨w.heap.size, 0, none⟩ = false := by rw [hW]; exact free_at (heap_alloc_new w _) 0
 have z1 : W.frozen? ⟨w.heap.size, 1, none⟩ = false := by rw [hW]; exact free_at (heap_alloc_new w _) 1
 have z2 : W.frozen? ⟨w.heap.size, 2, none⟩ = false := by rw [hW]; exact free_at (heap_alloc_new w _) 2
 have hw : Below w.heap.size w W := by rw [hW]; exact (Below.refl _ _).alloc (nlr _) _
 have hlt : w.heap.size < W.heap.size := by rw [hW]; simp
 clear hW
 replace z0 := frozen_keepB hb1 hlt z0
 replace z1 := frozen_keepB hb1 hlt z1
 replace z2 := frozen_keepB hb1 hlt z2
 replace c0 := Cx.keep hb1 c0
 replace c1 := Cx.keep hb1 c1
 replace c2 := Cx.keep hb1 c2
 have hB1 : Below w.heap.size w w1 := hw.trans (hb1.mono hw.size)
 have hlt1 : w.heap.size < w1.heap.size := Nat.lt_of_lt_of_le hlt hb1.size
 have HB := lhd hB1
 clear hb1 hw hlt hB1
 go_wp2_with fail
 have e0 : ∀ (x y z : Value) (o : Obj), ((((w1.setCell ⟨w.heap.size, 0, none⟩ x).setCell ⟨w.heap.size, 1, none⟩ y).setCell ⟨w.heap.size, 2, none⟩ z).alloc o).cell? ⟨w.heap.size, 0, none⟩ = some x := fun x y z o =>
  keepAl (cell_setC (cell_setC (World.cell?_setCell_same' _ _ _ (by rw [c0]; rfl)) (by simp)) (by simp)) o
 have e1 : ∀ (x y z : Value) (o : Obj), ((((w1.setCell ⟨w.heap.size, 0, none⟩ x).setCell ⟨w.heap.size, 1, none⟩ y).setCell ⟨w.heap.size, 2, none⟩ z).alloc o).cell? ⟨w.heap.size, 1, none⟩ = some y := fun x y z o =>
  keepAl (cell_setC (World.cell?_setCell_same' _ _ _ (by rw [cell_setC c1 (by simp)]; rfl)) (by simp)) o
 have e2 : ∀ (x y z : Value) (o : Obj), ((((w1.setCell ⟨w.heap.size, 0, none⟩ x).setCell ⟨w.heap.size, 1, none⟩ y).setCell ⟨w.heap.size, 2, none⟩ z).alloc o).cell? ⟨w.heap.size, 2, none⟩ = some z := fun x y z o =>
  keepAl (World.cell?_setCell_same' _ _ _ (by rw [cell_setC (cell_setC c2 (by simp)) (by simp)]; rfl)) o
 refine bodyPost_ret (v := .agg #[.int .i64 r, .int .i64 c, .slice (some ⟨w1.heap.size, 0, none⟩) N N]) (by simp [results, Tryz.results69, go_sem, e0, e1, e2]) rfl ⟨w1.heap.size, rfl, HB.out.size, by simp, ?_, ?_⟩
 ·have h := EW.new (((w1.setCell ⟨w.heap.size, 0, none⟩ (.int .i64 r)).setCell ⟨w.heap.size, 1, none⟩ (.int .i64 c)).setCell ⟨w.heap.size, 2, none⟩ (.slice (some ⟨w1.heap.size, 0, none⟩) N N)) N 38
  simpa using h
 ·exact (((HB.out.setCell (nlr _) _).setCell (nlr _) _).setCell (nlr _) _).alloc (by simpa using HB.out.size) _
theorem mg_first {x : Int} (h : x ≠ 0) : ∃ b : Int, b ≠ 0 ∧ ∀ w : World, (Instr.index 9 (.string (mg x)) (.int .i64 0)).run Tryz.prog w = .ok (.int .u8 b) w := by
 have h1 : bytesOf x.natAbs ≠ [] := fun e => h (by have := (bytesOf_eq_nil x.natAbs).1 e; omega)
 cases hb : bytesOf x.natAbs with
 | nil => exact absurd hb h1
 | cons c l =>
  have hc := bytesOf_head _ c l hb
  refine ⟨(c.toNat : Int), fun e => hc ?_, fun w => ?_⟩
  ·have : c.toNat = 0 := by omega
   exact UInt8.toNat_inj.1 this
  ·rw [run_index_string _ _ _ _ _ Tryz.underlying9]
   have hsz : (mg x).size = l.length + 1 := by unfold mg; rw [hb]; simp [ByteArray.size]
   rw [dif_pos ⟨Int.le_refl _, by rw [hsz]; omega⟩]
   have : (mg x)[(0 : Int).toNat]'(by rw [hsz]; simp) = c := by
    show (mg x).data[0]'_ = c
    unfold mg
    simp [hb]
   rw [this]
theorem mCanonical (v : Value) (l : List Int) (w : World) (h : Sl w 2 v (wvs l)) : Calls Tryz.prog 83 #[v] w fun e w' => e = .returned (.bool true) ∧ Below w.heap.size w w' := by
 obtain ⟨a, n, cap, rfl⟩ := sl_shape h
 have hlen : l.length = n := by
  obtain ⟨_, _, h3, _⟩ := h.open
  rw [wvs_len] at h3; omega
 obtain ⟨hc1, hc2, _⟩ := h.open
 unfold maxLen at hc2
 have HH := lhd (aiq h hlen)
 clear h hlen
 go_enter Tryz.func83, Tryz.ntmps83
 go_wp2_with fail
 go_loopw [3] (fun p wr => ∃ k : Nat, p = .int .i64 k ∧ k ≤ n ∧ Below w.heap.size w wr) (fun p _ => n - (vI p).toNat)
 case atStart => exact ⟨0, rfl, Nat.zero_le _, Below.refl _ _⟩
 case round =>
  obtain ⟨k, rfl, hk, hB⟩ := hrel
  by_cases hlt : k < n
  ·obtain ⟨x, hx⟩ : ∃ y, l[k]? = some y := ⟨_, List.getElem?_eq_getElem (by rw [HH.out.2]; omega)⟩
   obtain ⟨_, _, _, h5, h6⟩ := HH.out.1.open
   obtain ⟨ad, hade⟩ : ∃ ad, a = some ad := by
    cases a with
    | none => have := h5 rfl; omega
    | some ad => exact ⟨ad, rfl⟩
   subst hade
   obtain ⟨e0, e1⟩ := wvs_get l k x hx
   have d0 : wr.cell? (ad.add (k * 2)) = some (.bool (decide (x < 0))) := Cx.keep hB (h6 ad rfl _ _ e0)
   have d1 : wr.cell? ⟨(ad.add (k * 2)).block, (ad.add (k * 2)).off + 1, none⟩ = some (.string (mg x)) := by rw [add_part _ _ _ (by omega)]; exact Cx.keep hB (h6 ad rfl _ _ e1)
   clear h5 h6 hx e0 e1
   by_cases hx0 : x = 0
   ·subst hx0
    rw [Cx.mg_zero] at d1
    rw [show decide ((0 : Int) < 0) = false from rfl] at d0
    go_wp2
    go_roundw
    case measure => simp [vI]; omega
    case rel => exact ⟨k + 1, i64_eq (by omega), by omega, hB⟩
   ·have he := mg_ne hx0
    obtain ⟨q, hq⟩ : ∃ q, q = decide (x < 0) := ⟨_, rfl⟩
    rw [← hq] at d0
    obtain ⟨b, hb0, hix⟩ := mg_first hx0
    obtain ⟨s, hs⟩ : ∃ s, s = mg x := ⟨_, rfl⟩
    rw [← hs] at d1 he hix
    have he2 : s.toList.isEmpty = false := by simpa using he
    have hbb : (b == 0) = false := by simpa using hb0
    clear hq hs hx0 he hb0
    go_wp2
    go_roundw
    case measure => simp [vI]; omega
    case rel => exact ⟨k + 1, i64_eq (by omega), by omega, hB⟩
  ·go_wp2
   go_ret
   exact ⟨rfl, hB⟩
theorem mRight (r c : Nat) (v : Value) (l : List Int) (w : World) (h : Sl w 2 v (wvs l)) (hr : r ≤ 200) (hc : c ≤ 200) (hl : l.length = r * c) : Calls Tryz.prog 116 #[.agg #[.int .i64 r, .int .i64 c, v]] w fun e w' => e = .returned (.bool true) ∧ Below w.heap.size w w' := by
 have hrc : r * c ≤ 40000 := Nat.le_trans (Nat.mul_le_mul hr hc) (by decide)
 obtain ⟨a, n, cap, rfl⟩ := sl_shape h
 have hlen : l.length = n := by
  obtain ⟨_, _, h3, _⟩ := h.open
  rw [wvs_len] at h3; omega
 have hn : n = r * c := hlen.symm.trans hl
 have hw1 : IntKind.i64.wrap ((r : Int) * (c : Int)) = (n : Int) := by
  rw [hn, Int.natCast_mul]; exact IntWalk.i64_in _ (by rw [← Int.natCast_mul]; omega)
 have HH := lhd h
 clear h hlen hn hl hrc
 go_enter Tryz.func116, Tryz.ntmps116
 go_wp2_with fail
 refine (mFits r c _ hr hc).mono ?_
 rintro e w1 ⟨rfl, hb1⟩
 obtain ⟨W, hW⟩ : ∃ W, W = w.alloc (.cells #[.int .i64 r, .int .i64 c, .slice a n cap] 44) := ⟨_, rfl⟩
 rw [← hW] at hb1
 have c0 : w1.cell? ⟨w.heap.size, 0, none⟩ = some (.int .i64 r) := Cx.keep hb1 (by rw [hW]; exact cell_new w _ _ (0, 0) 0)
 have c1 : w1.cell? ⟨w.heap.size, 1, none⟩ = some (.int .i64 c) := Cx.keep hb1 (by rw [hW]; exact cell_new w _ _ (0, 0) 1)
 have c2 : w1.cell? ⟨w.heap.size, 2, none⟩ = some (.slice a n cap) := Cx.keep hb1 (by rw [hW]; exact cell_new w _ _ (0, 0) 2)
 have hw : Below w.heap.size w W := by rw [hW]; exact (Below.refl _ _).alloc (nlr _) _
 have hB1 : Below w.heap.size w w1 := hw.trans (hb1.mono hw.size)
 have HB := lhd hB1
 clear hb1 hw hB1 hW
 go_wp2_with fail
 refine (mCanonical _ l _ (HH.out.keep HB.out)).mono ?_
 rintro e w2 ⟨rfl, hb2⟩
 have HB2 := lhd (HB.out.trans (hb2.mono HB.out.size))
 clear hb2
 go_wp2_with fail
 go_ret
 exact ⟨rfl, HB2.out⟩
structure Kp (E : Nat) (w w' : World) : Prop where
 size : w.heap.size ≤ w'.heap.size
 cell : ∀ p u, p.block ≠ E → w.cell? p = some u → w'.cell? p = some u
 froz : ∀ p, p.block ≠ E → p.block < w.heap.size → w.frozen? p = false → w'.frozen? p = false
theorem Kp.refl (E : Nat) (w : World) : Kp E w w := ⟨nlr _, fun _ _ _ h => h, fun _ _ _ h => h⟩
theorem Kp.below {E : Nat} {w w' w'' : World} (h : Kp E w w') (hb : Below w'.heap.size w' w'') : Kp E w w'' where
 size := Nat.le_trans h.size hb.size
 cell p u hp hu := Cx.keep hb (h.cell p u hp hu)
 froz p hp hl hf := frozen_keepB hb (Nat.lt_of_lt_of_le hl h.size) (h.froz p hp hl hf)
theorem Kp.set {E : Nat} {w w' : World} (h : Kp E w w') (k : Nat) (u : Value) : Kp E w (w'.setCell ⟨E, k, none⟩ u) where
 size := by simpa using h.size
 cell p v hp hv := cell_set (h.cell p v hp hv) hp
 froz p hp hl hf := by simpa [World.frozen?_setCell] using h.froz p hp hl hf
theorem mOf (v : Value) (ls : List (List Int)) (n m : Nat) (w : World) (h : SlI w v ls) (hn : ls.length = n) (hm : ∀ l ∈ ls, l.length = m) (hn0 : 0 < n) (hn2 : n ≤ 200) (hm2 : m ≤ 200) (hI : ∀ l ∈ ls, ∀ x ∈ l, I64 x) :
  Calls Tryz.prog 86 #[v] w fun e w' => ∃ E : Nat, e = .returned (.agg #[.int .i64 n, .int .i64 m, .slice (some ⟨E, 0, none⟩) (n * m) (n * m)]) ∧ w.heap.size ≤ E ∧ E < w'.heap.size ∧ EW w' E (n * m) (fun i => (ls.getD (i / m) []).getD (i % m) 0) ∧ Below w.heap.size w w' := by
 obtain ⟨vs, hv, hvl, hel⟩ := h
 obtain ⟨a, n', cap, rfl⟩ := sl_shape hv
 have hnn : n' = n := by
  obtain ⟨_, _, h3, _⟩ := hv.open
  omega
 subst hnn
 obtain ⟨hc1, hc2, _⟩ := hv.open
 unfold maxLen at hc2
 obtain ⟨ad, hade⟩ : ∃ ad, a = some ad := by
  cases a with
  | none => have := hv.open.2.2.2.1 rfl; omega
  | some ad => exact ⟨ad, rfl⟩
 subst hade
 have hrow : ∀ k, k < n' → ∃ (ra : Option Addr) (rc : Nat) (l : List Int), ls[k]? = some l ∧ w.cell? (ad.add k) = some (.slice ra m rc) ∧ Sl w 1 (.slice ra m rc) (ints l) := fun k hk => by
  obtain ⟨l, hl⟩ : ∃ l, ls[k]? = some l := ⟨_, List.getElem?_eq_getElem (by rw [hn]; exact hk)⟩
  obtain ⟨u, hu⟩ : ∃ u, vs[k]? = some u := ⟨_, List.getElem?_eq_getElem (by rw [hvl, hn]; exact hk)⟩
  have hs := hel k u l hu hl
  obtain ⟨ra, rl, rc, rfl⟩ := sl_shape hs
  have hrl : rl = m := by
   obtain ⟨_, _, h3, _⟩ := hs.open
   rw [ints_len, hm l (List.mem_of_getElem? hl)] at h3
   omega
  subst hrl
  refine ⟨ra, rc, l, hl, ?_, hs⟩
  have := hv.open.2.2.2.2 ad rfl k _ hu
  exact this
 have HR := lhd (aiq hrow (aiq hI hm))
 clear hrow hv hvl hel hI hm
 go_enter Tryz.func86, Tryz.ntmps86
 go_wp2_with fail
 obtain ⟨W, hW⟩ : ∃ W, W = w.alloc (.cells #[.int .i64 0, .int .i64 0, .slice none 0 0] 44) := ⟨_, rfl⟩
 rw [← hW]
 have c0 : W.cell? ⟨w.heap.size, 0, none⟩ = some (.int .i64 0) := by rw [hW]; exact cell_new w _ _ (0, 0) 0
 have c1 : W.cell? ⟨w.heap.size, 1, none⟩ = some (.int .i64 0) := by rw [hW]; exact cell_new w _ _ (0, 0) 1
 have c2 : W.cell? ⟨w.heap.size, 2, none⟩ = some (.slice none 0 0) := by rw [hW]; exact cell_new w _ _ (0, 0) 2
 have z0 : W.frozen? ⟨w.heap.size, 0, none⟩ = false := by rw [hW]; exact free_at (heap_alloc_new w _) 0
 have z1 : W.frozen? ⟨w.heap.size, 1, none⟩ = false := by rw [hW]; exact free_at (heap_alloc_new w _) 1
 have z2 : W.frozen? ⟨w.heap.size, 2, none⟩ = false := by rw [hW]; exact free_at (heap_alloc_new w _) 2
 have hw : Below w.heap.size w W := by rw [hW]; exact (Below.refl _ _).alloc (nlr _) _
 have hlt : w.heap.size < W.heap.size := by rw [hW]; simp
 have HC := lhd (aiq c0 (aiq c1 (aiq c2 (aiq z0 (aiq z1 (aiq z2 (aiq hw hlt)))))))
 clear hW c0 c1 c2 z0 z1 z2 hw hlt
 go_loopw [3, 4] (fun p q wr => ∃ k : Nat, q = .int .i64 k ∧ k ≤ n' ∧ p = .int .i64 ((if k = 0 then 0 else m : Nat) : Int) ∧ Below W.heap.size W wr) (fun _ q _ => n' - (vI q).toNat)
 case atStart => exact ⟨0, rfl, Nat.zero_le _, rfl, Below.refl _ _⟩
 case round =>
  obtain ⟨k, rfl, hk, rfl, hB⟩ := hrel
  by_cases hlt : k < n'
  ·obtain ⟨ra, rc, l, hl, hc, hs⟩ := HR.out.1 k hlt
   have d0 : wr.cell? (ad.add k) = some (.slice ra m rc) := Cx.keep hB (Cx.keep HC.out.2.2.2.2.2.2.1 hc)
   obtain ⟨cur, hcur⟩ : ∃ c, c = (if k = 0 then 0 else m : Nat) := ⟨_, rfl⟩
   rw [← hcur]
   have hmax : max (cur : Int) (m : Int) = (m : Int) := by
    rw [hcur]; split <;> omega
   clear hl hc hs hcur
   go_wp2
   go_roundw
   case measure => simp [vI]; omega
   case rel => exact ⟨k + 1, i64_eq (by omega), by omega, by simp, hB⟩
  ·have hkn : k = n' := by omega
   have hcm : (if k = 0 then 0 else m : Nat) = m := if_neg (by omega)
   rw [hcm]
   clear hcm
   go_wp2_with fail
   refine (mZero n' m _ hn2 hm2).mono ?_
   rintro e w1 ⟨E, rfl, hE1, hE2, hEW, hb1⟩
   have hB1 : Below W.heap.size W w1 := hB.trans (hb1.mono hB.size)
   have HZ := lhd (aiq hEW hB1)
   have hEw : W.heap.size ≤ E := Nat.le_trans hB.size hE1
   clear hEW hb1 hB1 hB
   obtain ⟨N, hN⟩ : ∃ N, N = n' * m := ⟨_, rfl⟩
   have hNb : N ≤ 40000 := by rw [hN]; exact Nat.le_trans (Nat.mul_le_mul hn2 hm2) (by decide)
   rw [← hN] at HZ ⊢
   have HNN := lhd hN
   clear hN
   go_wp2_with fail
   obtain ⟨W5, hW5⟩ : ∃ x, x = w1.alloc (.cells #[.int .i64 n', .int .i64 m, .slice (some ⟨E, 0, none⟩) N N] 44) := ⟨_, rfl⟩
   rw [← hW5]
   have b0 : W5.cell? ⟨w1.heap.size, 0, none⟩ = some (.int .i64 n') := by rw [hW5]; exact cell_new w1 _ _ (0, 0) 0
   have b1 : W5.cell? ⟨w1.heap.size, 1, none⟩ = some (.int .i64 m) := by rw [hW5]; exact cell_new w1 _ _ (0, 0) 1
   have b2 : W5.cell? ⟨w1.heap.size, 2, none⟩ = some (.slice (some ⟨E, 0, none⟩) N N) := by rw [hW5]; exact cell_new w1 _ _ (0, 0) 2
   have hB15 : Below w1.heap.size w1 W5 := by rw [hW5]; exact (Below.refl _ _).alloc (nlr _) _
   have hE5 : EW W5 E N (fun _ => 0) := HZ.out.1.keep hB15 hE2
   have hWW : Below W.heap.size W W5 := HZ.out.2.trans (hB15.mono HZ.out.2.size)
   have HB := lhd (aiq b0 (aiq b1 (aiq b2 (aiq hE5 hWW))))
   have hEne : w1.heap.size ≠ E := by omega
   clear b0 b1 b2 hE5 hWW hB15 hW5
   obtain ⟨F, hF⟩ : ∃ F : Nat → Int, F = fun i => (ls.getD (i / m) []).getD (i % m) 0 := ⟨_, rfl⟩
   have HF := lhd hF
   clear hF
   go_loopw [6] (fun q wr => ∃ k : Nat, q = .int .i64 k ∧ k ≤ n' ∧ Hid (EW wr E N (fun i => if i < k * m then F i else 0)) ∧ Hid (Kp E W5 wr) ∧ Below W.heap.size W wr) (fun q _ => n' - (vI q).toNat)
   case atStart => exact ⟨0, rfl, Nat.zero_le _, (show Hid _ from HB.out.2.2.2.1.congr fun i _ => by simp), (show Hid _ from Kp.refl _ _), HB.out.2.2.2.2⟩
   case round =>
    obtain ⟨k, rfl, hk, HE, HK, hB⟩ := hrel
    have b0 := HK.out.cell _ _ hEne HB.out.1
    have b2 := HK.out.cell _ _ hEne HB.out.2.2.1
    by_cases hlt : k < n'
    ·obtain ⟨ra, rc, l, hl, hc, hs⟩ := HR.out.1 k hlt
     have hll : l.length = m := HR.out.2.2 l (List.mem_of_getElem? hl)
     have hrc : m ≤ rc ∧ rc ≤ maxLen := by obtain ⟨g1, g2, _⟩ := hs.open; exact ⟨g1, g2⟩
     unfold maxLen at hrc
     obtain ⟨km, hkm⟩ : ∃ x, x = k * m := ⟨_, rfl⟩
     have hkN : km + m ≤ N := by
      rw [hkm, HNN.out]
      have : (k + 1) * m ≤ n' * m := Nat.mul_le_mul_right m hlt
      rw [Nat.add_mul, Nat.one_mul] at this
      exact this
     have hwk : IntKind.i64.wrap ((k : Int) * (m : Int)) = (km : Int) := by
      rw [hkm, Int.natCast_mul]; exact IntWalk.i64_in _ (by rw [← Int.natCast_mul, ← hkm]; omega)
     rw [← hkm] at HE
     have HL := lhd (aiq hl (aiq hc (aiq hs (aiq hll hkm))))
     clear hl hc hs hll hkm b0 b2
     obtain ⟨wo, hwo⟩ : ∃ x : World, x = wr := ⟨_, rfl⟩
     subst hwo
     have b0 := HK.out.cell _ _ hEne HB.out.1
     go_wp2_with fail
     go_loopw [7] (fun q wr => ∃ j : Nat, q = .int .i64 j ∧ j ≤ m ∧ Hid (EW wr E N (fun i => if i < km + j then F i else 0)) ∧ Hid (Kp E W5 wr) ∧ Below W.heap.size W wr) (fun q _ => m - (vI q).toNat)
     case atStart => exact ⟨0, rfl, Nat.zero_le _, HE, HK, hB⟩
     case round =>
      clear HE HK hB b0
      obtain ⟨j, rfl, hj, HE, HK, hB⟩ := hrel
      have b2 := HK.out.cell _ _ hEne HB.out.2.2.1
      have hBw : Below w.heap.size w wr := HC.out.2.2.2.2.2.2.1.trans (hB.mono HC.out.2.2.2.2.2.2.1.size)
      have d0 : wr.cell? (ad.add k) = some (.slice ra m rc) := Cx.keep hBw HL.out.2.1
      by_cases hjm : j < m
      ·obtain ⟨rd, hrd⟩ : ∃ rd, ra = some rd := by
        cases ra with
        | none => have := HL.out.2.2.1.open.2.2.2.1 rfl; omega
        | some rd => exact ⟨rd, rfl⟩
       subst hrd
       obtain ⟨x, hx⟩ : ∃ x, l[j]? = some x := ⟨_, List.getElem?_eq_getElem (by rw [HL.out.2.2.2.1]; exact hjm)⟩
       have d1 : wr.cell? (rd.add j) = some (.int .i64 x) := Cx.keep hBw (HL.out.2.2.1.open.2.2.2.2 rd rfl _ _ (by rw [ints_get _ _ (by rw [HL.out.2.2.2.1]; exact hjm), List.getD_eq_getElem?_getD, hx]; rfl))
       have HD := lhd (HL.out.2.2.1.open.2.2.2.2 rd rfl _ _ (show (ints l)[j]? = some (.int .i64 x) by rw [ints_get _ _ (by rw [HL.out.2.2.2.1]; exact hjm), List.getD_eq_getElem?_getD, hx]; rfl))
       have hxI := HR.out.2.1 l (List.mem_of_getElem? HL.out.1) x (List.mem_of_getElem? hx)
       unfold I64 at hxI
       obtain ⟨q, hq⟩ : ∃ q, q = km + j := ⟨_, rfl⟩
       have hqN : q < N := by omega
       have hwq : IntKind.i64.wrap ((km : Int) + (j : Int)) = (q : Int) := by rw [hq, Int.natCast_add]; exact IntWalk.i64_in _ (by omega)
       have hqI : (q : Int) < N := by omega
       have hFq : F q = x := by
        rw [HF.out]
        show (ls.getD (q / m) []).getD (q % m) 0 = x
        have h1 : (k * m + j) / m = k := by rw [Nat.mul_comm, Nat.mul_add_div (by omega), Nat.div_eq_of_lt hjm, Nat.add_zero]
        have h2 : (k * m + j) % m = j := by rw [Nat.mul_comm, Nat.mul_add_mod, Nat.mod_eq_of_lt hjm]
        have h3 : ls.getD k [] = l := by rw [List.getD_eq_getElem?_getD, HL.out.1]; rfl
        rw [hq, HL.out.2.2.2.2, h1, h2, h3, List.getD_eq_getElem?_getD, hx]; rfl
       have HQ := lhd (aiq hq hFq)
       clear hq hFq hx
       have hEl : E < wr.heap.size := by
        have := HK.out.size
        have h2 := HZ.out.1
        have h3 := World.block_lt_of_cell? wr ⟨E, q * 2, none⟩ (HE.out q hqN).1
        exact h3
       have hdr : Below wr.heap.size wr wr.drew := below_draws (Below.refl _ wr) 1
       have hnA : (ad.add k).block ≠ E := by
        have h1 := World.block_lt_of_cell? w _ HL.out.2.1
        have h2 := HC.out.2.2.2.2.2.2.2
        omega
       have hnR : (rd.add j).block ≠ E := by
        have h1 := World.block_lt_of_cell? w _ HD.out
        have h2 := HC.out.2.2.2.2.2.2.2
        omega
       clear HD
       go_upto_region 13 with fail
       go_region_held3 (fun w' => w'.cell? ⟨w1.heap.size, 2, none⟩ = some (.slice (some ⟨E, 0, none⟩) N N) ∧ w'.cell? (ad.add k) = some (.slice (some rd) m rc) ∧ w'.cell? (rd.add j) = some (.int .i64 x))
        (first | exact ⟨by assumption, by assumption, by assumption⟩ | exact ⟨cell_set (cell_set a0 hEne) hEne, cell_set (cell_set a1 hnA) hnA, cell_set (cell_set a2 hnR) hnR⟩)
        (first
         |(go_at_call 29; refine (refFrom x _ hxI.1 hxI.2).mono ?_; rintro e w2 ⟨rfl, hb2⟩; rw [show wv x = .agg #[.bool (decide (x < 0)), .string (mg x)] from rfl]; have hB2 : Below wr.heap.size wr w2 := hdr.trans (hb2.mono hdr.size); have a0 := Cx.keep hB2 b2; have a1 := Cx.keep hB2 d0; have a2 := Cx.keep hB2 d1; have HE2 := lhd (HE.out.keep hB2 hEl); obtain ⟨t0, t1, t2, t3⟩ := HE2.out q hqN; have HB2 := lhd hB2))
       go_wp2
       go_roundw
       case measure => simp [vI]; omega
       case rel =>
        refine ⟨j + 1, i64_eq (by omega), by omega, (show Hid _ from (HE2.out.put q x).congr fun i hi => ?_), (show Hid _ from ((HK.out.below HB2.out).set _ _).set _ _), ((hB.trans (HB2.out.mono hB.size)).setCell hEw _).setCell hEw _⟩
        have h1 := HQ.out.1
        by_cases hiq : i = q
        ·rw [if_pos hiq, if_pos (by omega), hiq, HQ.out.2]
        ·rw [if_neg hiq]
         by_cases h2 : i < km + j
         ·rw [if_pos h2, if_pos (by omega)]
         ·rw [if_neg h2, if_neg (by omega)]
      ·have hjm' : j = m := by omega
       go_wp2
       go_roundw
       case measure => simp [vI]; omega
       case rel =>
        refine ⟨k + 1, i64_eq (by omega), by omega, (show Hid _ from ?_), HK, hB⟩
        rw [Nat.add_mul, Nat.one_mul, ← HL.out.2.2.2.2]
        rw [hjm'] at HE
        exact HE.out
    ·have hkn : k = n' := by omega
     have b1 := HK.out.cell _ _ hEne HB.out.2.1
     have hne : ∀ k : Nat, (⟨w.heap.size, k, none⟩ : Addr).block ≠ E := fun k => by
      have := HC.out.2.2.2.2.2.2.2
      show w.heap.size ≠ E
      omega
     have hwl := HC.out.2.2.2.2.2.2.2
     have r0 := HK.out.cell _ _ (hne 0) (Cx.keep HB.out.2.2.2.2 HC.out.1)
     have r1 := HK.out.cell _ _ (hne 1) (Cx.keep HB.out.2.2.2.2 HC.out.2.1)
     have r2 := HK.out.cell _ _ (hne 2) (Cx.keep HB.out.2.2.2.2 HC.out.2.2.1)
     have f0 := HK.out.froz _ (hne 0) (Nat.lt_of_lt_of_le hwl HB.out.2.2.2.2.size) (frozen_keepB HB.out.2.2.2.2 hwl HC.out.2.2.2.1)
     have f1 := HK.out.froz _ (hne 1) (Nat.lt_of_lt_of_le hwl HB.out.2.2.2.2.size) (frozen_keepB HB.out.2.2.2.2 hwl HC.out.2.2.2.2.1)
     have f2 := HK.out.froz _ (hne 2) (Nat.lt_of_lt_of_le hwl HB.out.2.2.2.2.size) (frozen_keepB HB.out.2.2.2.2 hwl HC.out.2.2.2.2.2.1)
     go_wp2_with fail
     have e0 : ∀ (x y z : Value), (((wr.setCell ⟨w.heap.size, 0, none⟩ x).setCell ⟨w.heap.size, 1, none⟩ y).setCell ⟨w.heap.size, 2, none⟩ z).cell? ⟨w.heap.size, 0, none⟩ = some x := fun x y z =>
      cell_setC (cell_setC (World.cell?_setCell_same' _ _ _ (by rw [r0]; rfl)) (by simp)) (by simp)
     have e1 : ∀ (x y z : Value), (((wr.setCell ⟨w.heap.size, 0, none⟩ x).setCell ⟨w.heap.size, 1, none⟩ y).setCell ⟨w.heap.size, 2, none⟩ z).cell? ⟨w.heap.size, 1, none⟩ = some y := fun x y z =>
      cell_setC (World.cell?_setCell_same' _ _ _ (by rw [cell_setC r1 (by simp)]; rfl)) (by simp)
     have e2 : ∀ (x y z : Value), (((wr.setCell ⟨w.heap.size, 0, none⟩ x).setCell ⟨w.heap.size, 1, none⟩ y).setCell ⟨w.heap.size, 2, none⟩ z).cell? ⟨w.heap.size, 2, none⟩ = some z := fun x y z =>
      World.cell?_setCell_same' _ _ _ (by rw [cell_setC (cell_setC r2 (by simp)) (by simp)]; rfl)
     refine bodyPost_ret (v := .agg #[.int .i64 n', .int .i64 m, .slice (some ⟨E, 0, none⟩) N N]) (by simp [results, Tryz.results86, go_sem, e0, e1, e2]) rfl ⟨E, by rw [HNN.out], by omega, ?_, ?_, ?_⟩
     ·have := HK.out.size
      have h2 := HB.out.2.2.2.2.size
      have h3 := World.block_lt_of_cell? _ ⟨w1.heap.size, 0, none⟩ HB.out.1
      have h4 : w1.heap.size < W5.heap.size := h3
      simp only [World.size_setCell]
      omega
     ·have hew : EW (((wr.setCell ⟨w.heap.size, 0, none⟩ (.int .i64 n')).setCell ⟨w.heap.size, 1, none⟩ (.int .i64 m)).setCell ⟨w.heap.size, 2, none⟩ (.slice (some ⟨E, 0, none⟩) N N)) E N (fun i => if i < k * m then F i else 0) := fun i hi => by
       obtain ⟨g1, g2, g3, g4⟩ := HE.out i hi
       have hEw' : (⟨E, i * 2, none⟩ : Addr).block ≠ w.heap.size := by show E ≠ w.heap.size; omega
       have hEw2 : (⟨E, i * 2 + 1, none⟩ : Addr).block ≠ w.heap.size := by show E ≠ w.heap.size; omega
       exact ⟨cell_set (cell_set (cell_set g1 hEw') hEw') hEw', cell_set (cell_set (cell_set g2 hEw2) hEw2) hEw2, by simpa [World.frozen?_setCell] using g3, by simpa [World.frozen?_setCell] using g4⟩
      rw [← HNN.out]
      refine hew.congr fun i hi => ?_
      rw [if_pos (by rw [hkn, ← HNN.out]; exact hi), HF.out]
      simp [List.getD_eq_getElem?_getD]
     ·have h1 := HC.out.2.2.2.2.2.2.1.trans (hB.mono HC.out.2.2.2.2.2.2.1.size)
      exact ((h1.setCell (nlr _) _).setCell (nlr _) _).setCell (nlr _) _
end Go.Proofs.YtlhicnfeajejhaaGreatDoor
