/- An argument that is a slice of pairs of ints, as my walks read it. -/
import Derived.Deep.SlicePairs
import Derived.OpenShut
import Derived.ProofKit
import Derived.Test.YtlhicnfeajejhaaGreatDoorKMo
set_option maxRecDepth 1000000
set_option maxHeartbeats 16000000
namespace Go.Proofs.YtlhicnfeajejhaaGreatDoor
open Go.RowKit Go.Cx Go.ChangeShapes Go.WideShapes
theorem Tryz.cellsInt : Tryz.prog.cellsOf 3 = 1 := by kernel_rfl
theorem wfI {n : Int} (h : (Lit.int .i64 n).wf = true) : I64 n := by
 have h1 : IntKind.i64.min = -9223372036854775808 := rfl
 have h2 : IntKind.i64.max = 9223372036854775807 := rfl
 simp only [Lit.wf, Bool.and_eq_true, decide_eq_true_eq] at h
 unfold I64
 omega
section
variable {H : Type} {enc : TypeId × Value → H} {W : World}
theorem arg_ints {t : TypeId} {fuel : Nat} {v : Value} {x : DataW H × List MemPlace} (ht : Tryz.prog.underlying t = some (.slice 3)) (h : DataW.trod enc Tryz.prog W 0 (fun _ => true) true fuel t [v] = some x) : ∃ l : List Int, Sl W 1 v (ints l) ∧ ∀ x ∈ l, I64 x := by
 rcases open_ints ht Tryz.underlying3 Tryz.cellsInt h with ⟨h1, _⟩ | ⟨a, len, cap, zs, h1, _, hl, hm, hz, _, hc, hw⟩
 ·simp only [List.cons.injEq, and_true] at h1
  subst h1
  exact ⟨[], Sl.nil _ _, fun x hx => by cases hx⟩
 ·simp only [List.cons.injEq, and_true] at h1
  subst h1
  simp only [if_true] at hz
  refine ⟨zs.take len, ⟨some a, len, cap, rfl, hl, by omega, by rw [ints_len, List.length_take]; omega, (fun e => by cases e), fun ad ha j u hj => ?_⟩, fun x hx => wfI (hw x (List.mem_of_mem_take hx))⟩
  cases ha
  have hjl : j < (zs.take len).length := by
   have := (List.getElem?_eq_some_iff.1 hj).1
   rwa [ints_len] at this
  rw [ints_get _ _ hjl] at hj
  cases hj
  rw [List.length_take] at hjl
  rw [hc j (by omega)]
  simp [List.getD_eq_getElem?_getD, show j < len by omega]
end
end Go.Proofs.YtlhicnfeajejhaaGreatDoor
