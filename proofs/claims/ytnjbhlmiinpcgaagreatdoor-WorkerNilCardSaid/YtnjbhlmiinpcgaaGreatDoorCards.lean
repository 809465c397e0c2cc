/-
  DERIVED. GIVEN WITH THE SEED: THE CARDS: each row of YtnjbhlmiinpcgaaGreatDoorRows.lean that lists a variable, with what it lists TIED to the program's text (the seventh form; the later family's looks); each row that meets fmt, with fmt's text TOLD by the authors' own Lean function (tested against real Go, not proved from fmt's source: count such statements apart). THE CARD IS WHAT COUNTS. Prove the row's statement (the work); the ties are given (YtnjbhlmiinpcgaaGreatDoorTie.lean); close each card by the builder's one call (the guide's Derived/Test/ToyasCard.lean, 'card_holds'). Laid BY PROGRAM, IN A SANDBOX (cutbox-door.mjs). By AI agents, Wed Nov 11 2026. No macro, syntax, notation, axiom, sorry.
-/
import Derived.Test.YtnjbhlmiinpcgaaGreatDoorRows
import GoSem.ClaimSeven
namespace Go.Proofs.YtnjbhlmiinpcgaaGreatDoor
namespace Rows

/-- THE TIED CARD OF 'cocyclelaw25.WorkerNil'. -/
def workerNilCard : Claim7 := { stood := { row := workerNilRow, standIns := [], harness := (true, "fddd9e5d2b0aa37b896bc0de839d185224e4053456375b827d8f4274d4134da7"), looks := false }, kinds := [], alts := [], laidByText := true, laidKinds := [.data, .pinned], laidTests := true, laidLooks := .later }
def WorkerNilCardSaid : Prop := Claim7.holds Tryz.pinned (.plain (OpenSpec.ofChange workerNilSpec)) workerNilCard

/-- THE SECOND FORM's CARD OF 'cocyclelaw25.WorkerNil'. -/
def workerNilUptoCard : Claim7 := { stood := { row := workerNilUptoRow, standIns := [], harness := (true, "fddd9e5d2b0aa37b896bc0de839d185224e4053456375b827d8f4274d4134da7"), looks := false }, kinds := [], alts := [], laidByText := true, laidKinds := [.data, .pinned], laidTests := true, laidLooks := .later }
def WorkerNilUptoCardSaid : Prop := Claim7.holds Tryz.pinned (.plain (OpenSpec.upto workerNilSpec)) workerNilUptoCard
end Rows
end Go.Proofs.YtnjbhlmiinpcgaaGreatDoor
