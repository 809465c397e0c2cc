/- The facts of the program that the row of MorseTwice names, reckoned by the kernel. Conditions: none. Written by gen_card.py. -/
import Derived.Deep.DeepHandedRow
import Derived.Lib.LaidTab
import Derived.OpenShut
import Derived.Test.YtlhicnfeajejhaaGreatDoorCards
import Derived.Test.YtlhicnfeajejhaaGreatDoorTie
import Derived.WalkKit
set_option maxRecDepth 1000000
set_option maxHeartbeats 16000000
namespace Go.Proofs.YtlhicnfeajejhaaGreatDoor.morseTwice
open Go.ChangeShapes Go.WideShapes Go.ChangeAt Go.RowKit Go.Proofs.YtlhicnfeajejhaaGreatDoor
theorem closed:joinedFacts Tryz.pinned.checked.prog 12 Tryz.f12 (OpenSpec.ofChange Rows.morseTwiceSpec).bare Rows.morseTwiceRow=true:=by kernel_rfl
end Go.Proofs.YtlhicnfeajejhaaGreatDoor.morseTwice
