/- The facts of the program that the row of WorkerKnown names, reckoned by the kernel. Conditions: none. Written by gen_card.py. -/
import Derived.Test.YteakajbedjdggaaGreatDoorCards
import Derived.Test.YteakajbedjdggaaGreatDoorTie
import Derived.WalkKit
import Derived.OpenShut
import Derived.Deep.DeepHandedRow
import Derived.Lib.LaidTab
namespace Go.Proofs.YteakajbedjdggaaGreatDoor.workerKnown
open Go.ChangeShapes Go.WideShapes Go.ChangeAt Go.RowKit Go.Proofs.YteakajbedjdggaaGreatDoor
theorem closed : joinedFacts Tryz.pinned.checked.prog 4 Tryz.f4 (OpenSpec.ofChange Rows.workerKnownSpec).bare Rows.workerKnownRow = true := by kernel_rfl
end Go.Proofs.YteakajbedjdggaaGreatDoor.workerKnown
