/- An argument that is a slice of pairs of ints, as my walks read it. -/
import Derived.Deep.SlicePairs
import Derived.Carry
import Derived.OpenShut
import Derived.ProofKit
import Derived.Test.YtfcmpolhcpbliaaGreatDoorMo

namespace Go.Proofs.YtfcmpolhcpbliaaGreatDoor
open Go.RowKit Go.Cx Go.ChangeShapes Go.WideShapes

theorem Tryz.cellsInt : Tryz.prog.cellsOf 3 = 1 := by kernel_rfl

theorem wfI {n : Int} (h : (Lit.int .i64 n).wf = true) : I64 n := by
  have h1 : IntKind.i64.min = -9223372036854775808 := rfl
  have h2 : IntKind.i64.max = 9223372036854775807 := rfl
  simp only [Lit.wf, Bool.and_eq_true, decide_eq_true_eq] at h
  unfold I64
  omega

set_option maxRecDepth 100000 in
/-- A slice of arrays of two ints, handed in, reads as pairs. -/
theorem arg_pairs {H : Type} {enc : TypeId × Value → H} {W : World} {t e : TypeId} {fuel : Nat} {v : Value} {x : DataW H × List MemPlace} (ht : Tryz.prog.underlying t = some (.slice e)) (he : Tryz.prog.underlying e = some (.array 2 3)) (ce : Tryz.prog.cellsOf e = 2)
    (h : DataW.trod enc Tryz.prog W 0 (fun _ => true) true fuel t [v] = some x) : ∃ l : List (Int × Int), Sl W 2 v (pv l) ∧ ∀ p ∈ l, I64 p.1 ∧ I64 p.2 := by
  rcases Deep.open_slice ht h with ⟨hc, _⟩ | ⟨a, len, cap, m, n, D, Pl, hc, _, hl, hm, hmm, _, hx⟩
  · obtain rfl : v = .slice none 0 0 := by simpa using hc
    exact ⟨[], Sl.nil _ _, fun p hp => by cases hp⟩
  · obtain rfl : v = .slice (some a) len cap := by simpa using hc
    simp only [if_true] at hmm
    rw [hmm] at hx
    have key : ∀ i, i < cap → ∃ q : Value × Value, W.cell? (a.add (i * 2)) = some (.int .i64 (vI q.1)) ∧ W.cell? (a.add (i * 2 + 1)) = some (.int .i64 (vI q.2)) ∧ I64 (vI q.1) ∧ I64 (vI q.2) := fun i hi => by
      obtain ⟨cs', h1, h2⟩ := hx i hi
      rw [ce] at h1
      obtain ⟨_, hlen, hcell⟩ := World.cells?_some h1
      obtain ⟨xs, k, _, _, _, hxl, hf⟩ := DataW.trod_array he h2
      match xs, hxl, cs', hlen with
      | [y0, y1], _, [v0, v1], _ =>
        have g0 := hf 0 (by decide)
        have g1 := hf 1 (by decide)
        simp [Tryz.cellsInt] at g0 g1
        have e0 := hcell 0 (by omega)
        have e1 := hcell 1 (by omega)
        rw [add_add] at e0 e1
        obtain ⟨x, r1, _, w1⟩ := DataW.trod_int Tryz.underlying3 g0
        obtain ⟨y, r2, _, w2⟩ := DataW.trod_int Tryz.underlying3 g1
        simp at r1 r2
        subst r1 r2
        exact ⟨(.int .i64 x, .int .i64 y), by simpa [vI] using e0, by simpa [vI] using e1, wfI w1, wfI w2⟩
    obtain ⟨q, hV⟩ := Deep.choose_lt key
    obtain ⟨V0, hV0⟩ : ∃ V0 : Nat → Value, V0 = fun i => (q i).1 := ⟨_, rfl⟩
    obtain ⟨V1, hV1⟩ : ∃ V1 : Nat → Value, V1 = fun i => (q i).2 := ⟨_, rfl⟩
    have hV : ∀ i, i < cap → W.cell? (a.add (i * 2)) = some (.int .i64 (vI (V0 i))) ∧ W.cell? (a.add (i * 2 + 1)) = some (.int .i64 (vI (V1 i))) ∧ I64 (vI (V0 i)) ∧ I64 (vI (V1 i)) := by rw [hV0, hV1]; exact hV
    have hcell : ∀ i, i < cap → W.cell? (a.add (i * 2)) = some (.int .i64 (vI (V0 i))) ∧ W.cell? (a.add (i * 2 + 1)) = some (.int .i64 (vI (V1 i))) ∧ I64 (vI (V0 i)) ∧ I64 (vI (V1 i)) := fun i hi => by
      exact hV i hi
    refine ⟨(List.range len).map fun i => (vI (V0 i), vI (V1 i)), ⟨some a, len, cap, rfl, hl, by omega, by rw [pv_len]; simp, (fun e => by cases e), fun ad ha j u hj => ?_⟩, fun p hp => ?_⟩
    · cases ha
      have hjl : j < len * 2 := by
        have := (List.getElem?_eq_some_iff.1 hj).1
        rw [pv_len] at this
        simpa using this
      have hg := pv_get ((List.range len).map fun i => (vI (V0 i), vI (V1 i))) (j / 2) (vI (V0 (j / 2)), vI (V1 (j / 2))) (by rw [List.getElem?_map, List.getElem?_range (by omega)]; rfl)
      have hc := hcell (j / 2) (by omega)
      rcases Nat.mod_two_eq_zero_or_one j with hm2 | hm2
      · rw [show j = j / 2 * 2 by omega] at hj ⊢
        rw [hg.1] at hj
        cases hj
        exact hc.1
      · rw [show j = j / 2 * 2 + 1 by omega] at hj ⊢
        rw [hg.2] at hj
        cases hj
        exact hc.2.1
    · obtain ⟨i, hi, rfl⟩ := List.mem_map.1 hp
      have := hcell i (by have := List.mem_range.1 hi; omega)
      exact this.2.2

end Go.Proofs.YtfcmpolhcpbliaaGreatDoor
