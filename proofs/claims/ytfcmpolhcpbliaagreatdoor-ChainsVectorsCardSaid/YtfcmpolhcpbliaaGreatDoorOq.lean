/- cocycleref06: SameCell, Canon and Equal at equal complexes. Rows whose numbers are written to: what cocyclelaw07.ChainsKeeps does to results. cocyclelaw07.ChainsKeeps. Written by gen_keep.py out of LaV.src. -/
import Derived.Deep.CutRange
import Derived.Deep.DeepCutAuto
import Derived.Test.YtfcmpolhcpbliaaGreatDoorOn
import Derived.Test.YtfcmpolhcpbliaaGreatDoorOh
import Derived.Test.YtfcmpolhcpbliaaGreatDoorOi
import Derived.Test.YtfcmpolhcpbliaaGreatDoorOk
import Derived.Test.YtfcmpolhcpbliaaGreatDoorPa

namespace Go.Proofs.YtfcmpolhcpbliaaGreatDoor
open Go.RowKit Go.Cx
attribute [local go_sem ↓] Go.wp_at_zero Go.wp_at_succ

end Go.Proofs.YtfcmpolhcpbliaaGreatDoor

namespace Go.Proofs.YtfcmpolhcpbliaaGreatDoor
open Go.RowKit Go.Cx

theorem cell_setC {w : World} {a p : Addr} {u x : Value} (h : w.cell? p = some x) (hne : p ≠ a) : (w.setCell a u).cell? p = some x := by
  rw [World.cell?_setCell_other _ _ _ _ (fun e => hne e.symm)]; exact h
/-- A row of terms whose cells' numbers may be written. -/
def RowI (w : World) (b B : Nat) (v : Value) : Prop := ∃ a n c, v = .slice a n c ∧ n ≤ c ∧ c ≤ maxLen ∧ (a = none → n = 0) ∧ ∀ ad, a = some ad → (b ≤ ad.block ∧ ad.block < B) ∧ ∀ k, k < n → ∃ x, w.cell? (ad.add (k * 3)) = some (.int .i64 x) ∧ w.frozen? (ad.add (k * 3)) = false
theorem RowI.of {w : World} {b : Nat} {v : Value} {L : List (Int × Int)} (h : w.ownsRow b 63 3 v L.length (tv (ctm L))) : RowI w b w.heap.size v := by
  have hs := Sl.of_ownsRow h
  rcases h.2 with ⟨rfl, h0⟩ | ⟨g, cap, cur, rfl, hb, hg, hn, hm, hcs, ht⟩
  · exact ⟨none, 0, 0, rfl, Nat.le_refl _, Nat.zero_le _, fun _ => rfl, fun ad h => by cases h⟩
  · refine ⟨some ⟨g, 0, none⟩, L.length, cap, rfl, hn, hm, fun e => (by cases e), fun ad had => ?_⟩
    obtain rfl := Option.some.inj had
    refine ⟨⟨hb, (Array.getElem?_eq_some_iff.1 hg).1⟩, fun k hk => ?_⟩
    obtain ⟨_, _, _, _, h6⟩ := hs.open
    obtain ⟨p, hp⟩ : ∃ p, L[k]? = some p := ⟨_, List.getElem?_eq_getElem hk⟩
    have hpt : (ctm L)[k]? = some ⟨p.1, decide (p.2 < 0), mg p.2⟩ := by unfold ctm; rw [List.getElem?_map, hp]; rfl
    exact ⟨p.1, h6 _ rfl _ _ (tv_get (ctm L) k _ hpt).1, by rw [show (⟨g, 0, none⟩ : Addr).add (k * 3) = ⟨g, k * 3, none⟩ by simp [Addr.add]; intro h; omega]; exact free_at hg _⟩
theorem RowI.keep {w w' : World} {b B : Nat} {v : Value} (h : RowI w b B v) (hb : Below w.heap.size w w') : RowI w' b B v := by
  obtain ⟨a, n, c, rfl, h1, h2, h3, h4⟩ := h
  refine ⟨a, n, c, rfl, h1, h2, h3, fun ad had => ⟨(h4 ad had).1, fun k hk => ?_⟩⟩
  obtain ⟨x, h5, h6⟩ := (h4 ad had).2 k hk
  exact ⟨x, Cx.keep hb h5, frozen_keepB hb (World.block_lt_of_cell? w _ h5) h6⟩
theorem RowI.mono {w : World} {b B B' : Nat} {v : Value} (h : RowI w b B v) (hB : B ≤ B') : RowI w b B' v := by
  obtain ⟨a, n, c, rfl, h1, h2, h3, h4⟩ := h
  exact ⟨a, n, c, rfl, h1, h2, h3, fun ad had => ⟨⟨(h4 ad had).1.1, Nat.lt_of_lt_of_le (h4 ad had).1.2 hB⟩, (h4 ad had).2⟩⟩
theorem RowI.set {w : World} {b B : Nat} {v : Value} (h : RowI w b B v) (p : Addr) (y z : Int) (hp : w.cell? p = some (.int .i64 z)) : RowI (w.setCell p (.int .i64 y)) b B v := by
  obtain ⟨a, n, c, rfl, h1, h2, h3, h4⟩ := h
  refine ⟨a, n, c, rfl, h1, h2, h3, fun ad had => ⟨(h4 ad had).1, fun k hk => ?_⟩⟩
  obtain ⟨x, h5, h6⟩ := (h4 ad had).2 k hk
  by_cases he : ad.add (k * 3) = p
  · refine ⟨y, ?_, by simpa [World.frozen?_setCell] using h6⟩
    rw [he]
    exact World.cell?_setCell_same' _ _ _ (by rw [hp]; rfl)
  · exact ⟨x, cell_setC h5 he, by simpa [World.frozen?_setCell] using h6⟩
/-- A slice of rows, at block B; the rows lie from block b on, ahead of B. -/
def RowsI (w : World) (b B : Nat) (vs : List Value) : Prop := b ≤ B ∧ ∀ i v, vs[i]? = some v → w.cell? ⟨B, i, none⟩ = some v ∧ RowI w b B v
theorem RowsI.keep {w w' : World} {b B : Nat} {vs : List Value} (h : RowsI w b B vs) (hb : Below w.heap.size w w') : RowsI w' b B vs :=
  ⟨h.1, fun i v hv => ⟨Cx.keep hb (h.2 i v hv).1, (h.2 i v hv).2.keep hb⟩⟩
theorem RowsI.set {w : World} {b B : Nat} {vs : List Value} (h : RowsI w b B vs) (p : Addr) (y z : Int) (hp : w.cell? p = some (.int .i64 z)) (hB : p.block < B) : RowsI (w.setCell p (.int .i64 y)) b B vs :=
  ⟨h.1, fun i v hv => ⟨cell_set (h.2 i v hv).1 (by show B ≠ p.block; omega), (h.2 i v hv).2.set p y z hp⟩⟩

/-- What the operations of a region that makes a slice of rows yield. -/
inductive Kk
  | any
  | val (v : Value)
  | row (b : Nat)
  | rows (b n : Nat)
def Kk.holds : Kk → Value → World → Prop
  | .any, _, _ => True
  | .val x, v, _ => v = x
  | .row b, v, w => RowI w b w.heap.size v
  | .rows b n, v, w => ∃ B vs, v = .slice (some ⟨B, 0, none⟩) n n ∧ vs.length = n ∧ RowsI w b B vs
theorem Kk.keep {k : Kk} {v : Value} {w w' : World} (h : k.holds v w) (hb : Below w.heap.size w w') : k.holds v w' := by
  cases k with
  | any => trivial
  | val x => exact h
  | row b => exact (RowI.keep h hb).mono hb.size
  | rows b n => obtain ⟨B, vs, h1, h2, h3⟩ := h; exact ⟨B, vs, h1, h2, h3.keep hb⟩
theorem RowsI.new {w : World} {b : Nat} (hb : b ≤ w.heap.size) {vs : List Value} (h : ∀ v ∈ vs, RowI w b w.heap.size v) (t : TypeId) : RowsI (w.alloc (.cells vs.toArray t)) b w.heap.size vs :=
  ⟨hb, fun i v hv => ⟨by rw [cell_new]; simpa using hv, (h v (List.mem_of_getElem? hv)).keep ((Below.refl _ w).alloc (Nat.le_refl _) _)⟩⟩

theorem RowI.none {w : World} {b B n c : Nat} (h : RowI w b B (.slice none n c)) : n = 0 := by
  obtain ⟨a, n', c', he, _, _, h3, _⟩ := h
  injection he with h4 h5 h6
  subst h4 h5
  exact h3 rfl
theorem RowI.at {w : World} {b B n c : Nat} {ad : Addr} (h : RowI w b B (.slice (some ad) n c)) {k : Nat} (hk : k < n) : (b ≤ ad.block ∧ ad.block < B) ∧ ∃ x, w.cell? (ad.add (k * 3)) = some (.int .i64 x) ∧ w.frozen? (ad.add (k * 3)) = false := by
  obtain ⟨a, n', c', he, _, _, _, h4⟩ := h
  injection he with h5 h6 h7
  subst h5 h6
  exact ⟨(h4 ad rfl).1, (h4 ad rfl).2 k hk⟩

end Go.Proofs.YtfcmpolhcpbliaaGreatDoor

namespace Go.Proofs.YtfcmpolhcpbliaaGreatDoor
open Go.RowKit Go.Cx
attribute [local go_sem ↓] Go.wp_at_zero Go.wp_at_succ

end Go.Proofs.YtfcmpolhcpbliaaGreatDoor
