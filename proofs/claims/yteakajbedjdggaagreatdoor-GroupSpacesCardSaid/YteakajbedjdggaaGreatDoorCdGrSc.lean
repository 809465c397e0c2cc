/- The facts of the program that the row of GroupSpaces names, reckoned by the kernel. Conditions: none. Written by gen_card.py. -/
import Derived.Test.YteakajbedjdggaaGreatDoorCards
import Derived.Test.YteakajbedjdggaaGreatDoorTie
import Derived.WalkKit
import Derived.OpenShut
import Derived.Deep.DeepHandedRow
import Derived.Lib.LaidTab
namespace Go.Proofs.YteakajbedjdggaaGreatDoor.groupSpaces
open Go.ChangeShapes Go.WideShapes Go.ChangeAt Go.RowKit Go.Proofs.YteakajbedjdggaaGreatDoor
theorem closed : joinedFacts Tryz.pinned.checked.prog 3 Tryz.f3 (OpenSpec.ofChange Rows.groupSpacesSpec).bare Rows.groupSpacesRow = true := by kernel_rfl
end Go.Proofs.YteakajbedjdggaaGreatDoor.groupSpaces
