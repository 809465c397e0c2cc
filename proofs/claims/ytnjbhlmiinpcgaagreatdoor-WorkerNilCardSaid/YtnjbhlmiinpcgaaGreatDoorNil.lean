/- WorkerNil returns true for every two ints. -/
import Derived.Test.YtnjbhlmiinpcgaaGreatDoorTmD
import Derived.Test.YtnjbhlmiinpcgaaGreatDoorSxHs
set_option maxRecDepth 1000000
noncomputable section
namespace Go.Proofs.YtnjbhlmiinpcgaaGreatDoor
open Go Go.RowKit Go.Sx
noncomputable def gS : HF := memoK [] [] [] (.bool true)
theorem sS : Snd P0 4 gS := memo_run (n := 2000) (nx := i0) ho_H_57 (by kernel_rfl)
noncomputable def H_N : Hand := addH 13 hHas (addH 4 gS H_0)
theorem ho_N : HO P0 H_N := ho_add (has_snd hasNil fun w n m b => hasNone w n m b) (ho_add sS ho_H_0)
theorem nilRun (n m : Int) : callF P0 H_N 3 (run P0 H_N 2000) [.int .i64 n, .int .i64 m] .lf .z (fun v _ _ => eqBv true v) = true := by kernel_rfl
theorem workerNil (n m : Int) (w : World) : Calls Tryz.prog 3 #[.int .i64 n, .int .i64 m] w fun en w' => en = .returned (.bool true) ∧ Below w.heap.size w w' := law_of_run ho_N (nilRun n m) (by simp [denL, den]) w
end Go.Proofs.YtnjbhlmiinpcgaaGreatDoor
