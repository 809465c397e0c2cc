/- 'has' of a coordinator that is nil, or has no hands: false. -/
import Derived.Lib.Hide
import Derived.Test.YtnjbhlmiinpcgaaGreatDoorProg
import Derived.Test.YtnjbhlmiinpcgaaGreatDoorSxZ
namespace Go.Proofs.YtnjbhlmiinpcgaaGreatDoor
open Go.RowKit Go.Sx
theorem neqNil (w : World) : (binOp .neq 23 (.pointer none) (.pointer none)).run Tryz.prog w = .ok (.bool false) w := by kernel_rfl
theorem neqPtr (w : World) (b : Nat) : (binOp .neq 23 (.pointer (some ⟨b, 0, none⟩)) (.pointer none)).run Tryz.prog w = .ok (.bool true) w := by kernel_rfl
attribute [local go_sem] neqNil neqPtr

set_option maxRecDepth 100000 in
set_option maxHeartbeats 4000000 in
theorem hasNil (w : World) (n m : Int) : Calls Tryz.prog 13 #[.pointer none, .int .i64 n, .int .i64 m] w fun e w' => e = .returned (.bool false) ∧ w' = w := by
  go_enter Tryz.func13, Tryz.ntmps13
  go_wp2
  all_goals go_ret
  all_goals exact ⟨rfl, rfl⟩
set_option maxRecDepth 100000 in
set_option maxHeartbeats 4000000 in
theorem hasNone (w : World) (n m : Int) (b : Nat) (h : w.cell? ⟨b, 3, none⟩ = some (.slice none 0 0)) : Calls Tryz.prog 13 #[.pointer (some ⟨b, 0, none⟩), .int .i64 n, .int .i64 m] w fun e w' => e = .returned (.bool false) ∧ w' = w := by
  by_cases hm : 0 < m
  · by_cases hn : 0 ≤ n
    · go_enter Tryz.func13, Tryz.ntmps13
      go_wp2
      all_goals go_ret
      all_goals exact ⟨rfl, rfl⟩
    · go_enter Tryz.func13, Tryz.ntmps13
      go_wp2
      all_goals go_ret
      all_goals exact ⟨rfl, rfl⟩
  · go_enter Tryz.func13, Tryz.ntmps13
    go_wp2
    all_goals go_ret
    all_goals exact ⟨rfl, rfl⟩
end Go.Proofs.YtnjbhlmiinpcgaaGreatDoor
