/- Steps towards MorseChecks. Conditions: none. -/
import Derived.Deep.DeepHandedRow
import Derived.Lib.LaidTab
import Derived.OpenShut
import Derived.Test.YtlhicnfeajejhaaGreatDoorCards
import Derived.Test.YtlhicnfeajejhaaGreatDoorTie
import Derived.WalkKit
set_option maxRecDepth 1000000
set_option maxHeartbeats 16000000
namespace Go.Proofs.YtlhicnfeajejhaaGreatDoor.morseChecks
open Go.ChangeShapes Go.WideShapes Go.ChangeAt Go.RowKit Go.Proofs.YtlhicnfeajejhaaGreatDoor
theorem closed:joinedFacts Tryz.pinned.checked.prog 7 Tryz.f7 (OpenSpec.ofChange Rows.morseChecksSpec).bare Rows.morseChecksRow=true:=by kernel_rfl
end Go.Proofs.YtlhicnfeajejhaaGreatDoor.morseChecks
