/- An int among the arguments. -/
import Derived.Carry
import Derived.OpenShut
import Derived.ProofKit
import Derived.Test.YteakajbedjdggaaGreatDoorProg
namespace Go.Proofs.YteakajbedjdggaaGreatDoor
open Go.RowKit Go.ChangeShapes Go.WideShapes
section
variable {H : Type} {enc : TypeId × Value → H} {W : World}
set_option maxRecDepth 100000 in
theorem arg_intI {base : Nat} {v : Value} {d : DataW H} {p : List MemPlace} (hv : Value.okWide Tryz.prog W .any base 3 v) (h : DataW.Trod enc Tryz.prog W 0 (fun _ => true) true 3 v d p) : ∃ z, v = .int .i64 z ∧ (Lit.int .i64 z).wf = true := by
  obtain ⟨z, rfl, _, _, wz⟩ := open_int Tryz.underlying3 hv h
  exact ⟨z, rfl, wz⟩
set_option maxRecDepth 100000 in
theorem arg_byteI {base : Nat} {v : Value} {d : DataW H} {p : List MemPlace} (hv : Value.okWide Tryz.prog W .any base 5 v) (h : DataW.Trod enc Tryz.prog W 0 (fun _ => true) true 5 v d p) : ∃ z, v = .int .u8 z ∧ (Lit.int .u8 z).wf = true := by
  obtain ⟨z, rfl, _, _, wz⟩ := open_int Tryz.underlying5 hv h
  exact ⟨z, rfl, wz⟩
end
end Go.Proofs.YteakajbedjdggaaGreatDoor
