/- The facts of the program that the row of WorkerNil names, reckoned by the kernel. Conditions: none. Written by gen_card.py. -/
import Derived.Test.YtnjbhlmiinpcgaaGreatDoorCards
import Derived.Test.YtnjbhlmiinpcgaaGreatDoorTie
import Derived.WalkKit
import Derived.OpenShut
import Derived.Deep.DeepHandedRow
import Derived.Lib.LaidTab
namespace Go.Proofs.YtnjbhlmiinpcgaaGreatDoor.workerNil
open Go.ChangeShapes Go.WideShapes Go.ChangeAt Go.RowKit Go.Proofs.YtnjbhlmiinpcgaaGreatDoor
theorem closed : joinedFacts Tryz.pinned.checked.prog 3 Tryz.f3 (OpenSpec.ofChange Rows.workerNilSpec).bare Rows.workerNilRow = true := by kernel_rfl
end Go.Proofs.YtnjbhlmiinpcgaaGreatDoor.workerNil
