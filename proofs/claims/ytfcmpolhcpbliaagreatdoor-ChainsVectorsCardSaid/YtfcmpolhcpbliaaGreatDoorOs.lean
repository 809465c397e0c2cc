/- cocyclelaw07.ChainsBounds: the region that makes its three chains, by an invariant. cocyclelaw07.ChainsBounds. Written by gen_bnd.py out of LaY.src. -/
import Derived.Deep.CutRange
import Derived.Deep.DeepCutAuto
import Derived.Deep.RegionHeld3
import Derived.Deep.DeepMust
import Derived.Test.YtfcmpolhcpbliaaGreatDoorOr
import Derived.Test.YtfcmpolhcpbliaaGreatDoorOq
import Derived.Test.YtfcmpolhcpbliaaGreatDoorOk

namespace Go.Proofs.YtfcmpolhcpbliaaGreatDoor
open Go.RowKit Go.Cx

/-- A row of terms within bounds, in blocks from b on. -/
def TR (w : World) (b : Nat) (v : Value) : Prop := ∃ L : List (Int × Int), LOk 8 L ∧ L.length ≤ 180 ∧ w.ownsRow b 63 3 v L.length (tv (ctm L))
/-- A slice of terms within bounds. -/
def TS (w : World) (v : Value) : Prop := ∃ L : List (Int × Int), LOk 8 L ∧ L.length ≤ 360 ∧ Sl w 3 v (tv (ctm L))
theorem TR.keep {w w' : World} {b : Nat} {v : Value} (h : TR w b v) (hb : Below w.heap.size w w') : TR w' b v := by
  obtain ⟨L, h1, h2, h3⟩ := h; exact ⟨L, h1, h2, ownsRow_below h3 hb⟩
theorem TS.keep {w w' : World} {v : Value} (h : TS w v) (hb : Below w.heap.size w w') : TS w' v := by
  obtain ⟨L, h1, h2, h3⟩ := h; exact ⟨L, h1, h2, h3.keep hb⟩
theorem TR.ts {w : World} {b : Nat} {v : Value} (h : TR w b v) : TS w v := by
  obtain ⟨L, h1, h2, h3⟩ := h; exact ⟨L, h1, by omega, Sl.of_ownsRow h3⟩
theorem TR.lt {w : World} {b : Nat} {v : Value} (h : TR w b v) : ∀ g, v.ownBlock = some g → g < w.heap.size := by
  obtain ⟨L, h1, h2, h3⟩ := h; exact row_lt h3
/-- A fresh row lies apart from older ones. -/
theorem apt_new {w w' : World} {u v : Value} {e : TypeId} {st n : Nat} {xs : List Value} (hu : ∀ g, u.ownBlock = some g → g < w.heap.size) (hv : w'.ownsRow w.heap.size e st v n xs) : Apt v u := by
  intro g hg he
  have h1 := hu g he
  rcases hv.2 with ⟨rfl, _⟩ | ⟨g', _, _, rfl, hb, _⟩
  · cases hg
  · have hgg : g' = g := Option.some.inj hg
    omega
theorem apt_old {w w' : World} {u v : Value} {e : TypeId} {st n : Nat} {xs : List Value} (hu : ∀ g, u.ownBlock = some g → g < w.heap.size) (hv : w'.ownsRow w.heap.size e st v n xs) : Apt u v := by
  intro g hg he
  exact apt_new hu hv g he hg

/-- How far the region is. -/
def stg (l : Nat → Bool) : Nat := if l 13 then 6 else if l 12 then 5 else if l 11 then 4 else if l 9 then 3 else if l 5 then 2 else if l 3 then 1 else 0
/-- What holds of the six places then. -/
structure SB (b s : Nat) (x29 x31 x35 x37 x38 x39 : Value) (w : World) : Prop where
  r29 : 1 ≤ s → TR w b x29
  r31 : 2 ≤ s → TR w b x31
  r35 : 3 ≤ s → s ≤ 4 → TR w b x35 ∧ Apt x35 x29 ∧ Apt x35 x31
  r37 : s = 4 → TR w b x37 ∧ Apt x35 x37
  r38 : 5 ≤ s → TS w x38
  r39 : 6 ≤ s → ∃ B, x39 = .slice (some ⟨B, 0, none⟩) 3 3 ∧ w.cell? ⟨B, 0, none⟩ = some x29 ∧ w.cell? ⟨B, 1, none⟩ = some x31 ∧ w.cell? ⟨B, 2, none⟩ = some x38
theorem SB.keep {b s : Nat} {x29 x31 x35 x37 x38 x39 : Value} {w w' : World} (h : SB b s x29 x31 x35 x37 x38 x39 w) (hb : Below w.heap.size w w') : SB b s x29 x31 x35 x37 x38 x39 w' where
  r29 hs := (h.r29 hs).keep hb
  r31 hs := (h.r31 hs).keep hb
  r35 hs hs' := ⟨(h.r35 hs hs').1.keep hb, (h.r35 hs hs').2⟩
  r37 hs := ⟨(h.r37 hs).1.keep hb, (h.r37 hs).2⟩
  r38 hs := (h.r38 hs).keep hb
  r39 hs := by
    obtain ⟨B, h1, h2, h3, h4⟩ := h.r39 hs
    exact ⟨B, h1, Cx.keep hb h2, Cx.keep hb h3, Cx.keep hb h4⟩
section
variable {b : Nat} {x29 x31 x35 x37 x38 x39 : Value} {w w' : World} {L : List (Int × Int)} {x : Value}
theorem tr_new (hL : LOk 8 L) (hl : L.length ≤ 180) (hR : w'.ownsRow w.heap.size 63 3 x L.length (tv (ctm L))) (hb : b ≤ w.heap.size) : TR w' b x := ⟨L, hL, hl, ownsRow_mono hR hb⟩
theorem SB.s1 (hL : LOk 8 L) (hl : L.length ≤ 180) (hR : w'.ownsRow w.heap.size 63 3 x L.length (tv (ctm L))) (hb : b ≤ w.heap.size) : SB b 1 x x31 x35 x37 x38 x39 w' where
  r29 _ := tr_new hL hl hR hb
  r31 h := by omega
  r35 h := by omega
  r37 h := by omega
  r38 h := by omega
  r39 h := by omega
theorem SB.s2 (h : SB b 1 x29 x31 x35 x37 x38 x39 w) (hB : Below w.heap.size w w') (hL : LOk 8 L) (hl : L.length ≤ 180) (hR : w'.ownsRow w.heap.size 63 3 x L.length (tv (ctm L))) (hb : b ≤ w.heap.size) : SB b 2 x29 x x35 x37 x38 x39 w' where
  r29 _ := (h.r29 (by omega)).keep hB
  r31 _ := tr_new hL hl hR hb
  r35 h := by omega
  r37 h := by omega
  r38 h := by omega
  r39 h := by omega
theorem SB.s3 (h : SB b 2 x29 x31 x35 x37 x38 x39 w) (hB : Below w.heap.size w w') (hL : LOk 8 L) (hl : L.length ≤ 180) (hR : w'.ownsRow w.heap.size 63 3 x L.length (tv (ctm L))) (hb : b ≤ w.heap.size) : SB b 3 x29 x31 x x37 x38 x39 w' where
  r29 _ := (h.r29 (by omega)).keep hB
  r31 _ := (h.r31 (by omega)).keep hB
  r35 _ _ := ⟨tr_new hL hl hR hb, apt_new (h.r29 (by omega)).lt hR, apt_new (h.r31 (by omega)).lt hR⟩
  r37 h := by omega
  r38 h := by omega
  r39 h := by omega
theorem SB.s4 (h : SB b 3 x29 x31 x35 x37 x38 x39 w) (hB : Below w.heap.size w w') (hL : LOk 8 L) (hl : L.length ≤ 180) (hR : w'.ownsRow w.heap.size 63 3 x L.length (tv (ctm L))) (hb : b ≤ w.heap.size) : SB b 4 x29 x31 x35 x x38 x39 w' where
  r29 _ := (h.r29 (by omega)).keep hB
  r31 _ := (h.r31 (by omega)).keep hB
  r35 _ _ := ⟨(h.r35 (by omega) (by omega)).1.keep hB, (h.r35 (by omega) (by omega)).2⟩
  r37 _ := ⟨tr_new hL hl hR hb, apt_old (h.r35 (by omega) (by omega)).1.lt hR⟩
  r38 h := by omega
  r39 h := by omega
theorem SB.s6 (h : SB b 5 x29 x31 x35 x37 x38 x39 w) (t : TypeId) : SB b 6 x29 x31 x35 x37 x38 (.slice (some ⟨w.heap.size, 0, none⟩) 3 3) (w.alloc (.cells #[x29, x31, x38] t)) where
  r29 _ := (h.r29 (by omega)).keep ((Below.refl _ w).alloc (Nat.le_refl _) _)
  r31 _ := (h.r31 (by omega)).keep ((Below.refl _ w).alloc (Nat.le_refl _) _)
  r35 _ h := by omega
  r37 h := by omega
  r38 _ := (h.r38 (by omega)).keep ((Below.refl _ w).alloc (Nat.le_refl _) _)
  r39 _ := ⟨w.heap.size, rfl, cell_new w _ _ _ 0, cell_new w _ _ _ 1, cell_new w _ _ _ 2⟩
end
def clo (l : Nat → Bool) : Prop := (l 5 = true → l 3 = true) ∧ (l 9 = true → l 5 = true) ∧ (l 11 = true → l 9 = true) ∧ (l 12 = true → l 11 = true) ∧ (l 13 = true → l 12 = true)
/-- The region's invariant. -/
structure IB (ops : Array Oper) (VB : List (Option Value)) (a0 : Act) (W0 : World) (l : Nat → Bool) (a : Act) (w : World) : Prop where
  sz : a.tmps.size = a0.tmps.size
  df : a.defers = a0.defers
  base : ∀ s, (∀ (i : Nat) (o : Oper), ops[i]? = some o → o.dst ≠ some s) → a.tmps.getD s undef = a0.tmps.getD s undef
  below : Below W0.heap.size W0 w
  pv : ∀ i x, i < 16 → VB.getD i none = some x → l i = true → a.tmps.getD (26 + i) undef = x
  cl : clo l
  st : SB W0.heap.size (stg l) (a.tmps.getD 29 undef) (a.tmps.getD 31 undef) (a.tmps.getD 35 undef) (a.tmps.getD 37 undef) (a.tmps.getD 38 undef) (a.tmps.getD 39 undef) w
theorem IB.step {ops : Array Oper} {VB : List (Option Value)} {a0 : Act} {W0 : World} {l : Nat → Bool} {a : Act} {w : World} (h : IB ops VB a0 W0 l a w) (hn : a0.tmps.size = 101) (i : Nat) (hi : i < 16) (o : Oper) (ho : ops[i]? = some o) (hd : o.dst = some (26 + i)) (x : Value) (w' : World)
    (hB : Below W0.heap.size W0 w') (hv : ∀ y, VB.getD i none = some y → x = y) (hcl : clo fun j => j == i || l j)
    (hst : SB W0.heap.size (stg fun j => j == i || l j) (if 26 + i = 29 then x else a.tmps.getD 29 undef) (if 26 + i = 31 then x else a.tmps.getD 31 undef) (if 26 + i = 35 then x else a.tmps.getD 35 undef) (if 26 + i = 37 then x else a.tmps.getD 37 undef) (if 26 + i = 38 then x else a.tmps.getD 38 undef) (if 26 + i = 39 then x else a.tmps.getD 39 undef) w') :
    IB ops VB a0 W0 (fun j => j == i || l j) (a.put o.dst x) w' := by
  have hsz : a.tmps.size = 101 := h.sz.trans hn
  have hg : ∀ s, (a.put (some (26 + i)) x).tmps.getD s undef = if 26 + i = s then x else a.tmps.getD s undef := fun s => by
    rw [put_getD]
    by_cases he : 26 + i = s
    · rw [if_pos ⟨he, by omega⟩, if_pos he]
    · rw [if_neg (fun e => he e.1), if_neg he]
  rw [hd]
  refine ⟨?_, h.df, fun s hs => ?_, hB, fun j y hj hy hlj => ?_, hcl, ?_⟩
  · show (a.tmps.setIfInBounds _ x).size = _; simpa using h.sz
  · rw [hg, if_neg (fun e => hs i o ho (by rw [hd, e]))]; exact h.base s hs
  · rw [hg]
    by_cases hji : j = i
    · subst hji; rw [if_pos rfl]; exact hv y hy
    · rw [if_neg (by omega)]
      have : (j == i) = false := by simpa using hji
      exact h.pv j y hj hy (by simpa [this] using hlj)
  · rw [hg, hg, hg, hg, hg, hg]; exact hst
end Go.Proofs.YtfcmpolhcpbliaaGreatDoor

namespace Go.Proofs.YtfcmpolhcpbliaaGreatDoor
open Go.RowKit Go.Cx
attribute [local go_sem ↓] Go.wp_at_zero Go.wp_at_succ

end Go.Proofs.YtfcmpolhcpbliaaGreatDoor
