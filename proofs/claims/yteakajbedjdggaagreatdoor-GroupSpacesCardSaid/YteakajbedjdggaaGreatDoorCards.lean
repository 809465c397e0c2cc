/-
  DERIVED. GIVEN WITH THE SEED: THE CARDS: each row of YteakajbedjdggaaGreatDoorRows.lean that lists a variable, with what it lists TIED to the program's text (the seventh form; the later family's looks); each row that meets fmt, with fmt's text TOLD by the authors' own Lean function (tested against real Go, not proved from fmt's source: count such statements apart). THE CARD IS WHAT COUNTS. Prove the row's statement (the work); the ties are given (YteakajbedjdggaaGreatDoorTie.lean); close each card by the builder's one call (the guide's Derived/Test/ToyasCard.lean, 'card_holds'). Laid BY PROGRAM, IN A SANDBOX (cutbox-door.mjs). By AI agents, Wed Nov 11 2026. No macro, syntax, notation, axiom, sorry.
-/
import Derived.Test.YteakajbedjdggaaGreatDoorRows
import GoSem.ClaimSeven
namespace Go.Proofs.YteakajbedjdggaaGreatDoor
namespace Rows

/-- THE TIED CARD OF 'cocyclelaw08.GroupSpaces'. -/
def groupSpacesCard : Claim7 := { stood := { row := groupSpacesRow, standIns := [], harness := (true, "3e1d0ae770ba1dfab7e09bab4864d94079ccfbee9ef2a6e8ad6e4b9f7eae34a9"), looks := false }, kinds := [], alts := [], laidByText := true, laidKinds := [.data, .pinned], laidTests := true, laidLooks := .later }
def GroupSpacesCardSaid : Prop := Claim7.holds Tryz.pinned (.plain (OpenSpec.ofChange groupSpacesSpec)) groupSpacesCard

/-- THE TIED CARD OF 'cocyclelaw25.WorkerKnown'. -/
def workerKnownCard : Claim7 := { stood := { row := workerKnownRow, standIns := [], harness := (true, "3e1d0ae770ba1dfab7e09bab4864d94079ccfbee9ef2a6e8ad6e4b9f7eae34a9"), looks := false }, kinds := [], alts := [], laidByText := true, laidKinds := [.data, .pinned], laidTests := true, laidLooks := .later }
def WorkerKnownCardSaid : Prop := Claim7.holds Tryz.pinned (.plain (OpenSpec.ofChange workerKnownSpec)) workerKnownCard

/-- THE SECOND FORM's CARD OF 'cocyclelaw08.GroupSpaces'. -/
def groupSpacesUptoCard : Claim7 := { stood := { row := groupSpacesUptoRow, standIns := [], harness := (true, "3e1d0ae770ba1dfab7e09bab4864d94079ccfbee9ef2a6e8ad6e4b9f7eae34a9"), looks := false }, kinds := [], alts := [], laidByText := true, laidKinds := [.data, .pinned], laidTests := true, laidLooks := .later }
def GroupSpacesUptoCardSaid : Prop := Claim7.holds Tryz.pinned (.plain (OpenSpec.upto groupSpacesSpec)) groupSpacesUptoCard

/-- THE SECOND FORM's CARD OF 'cocyclelaw25.WorkerKnown'. -/
def workerKnownUptoCard : Claim7 := { stood := { row := workerKnownUptoRow, standIns := [], harness := (true, "3e1d0ae770ba1dfab7e09bab4864d94079ccfbee9ef2a6e8ad6e4b9f7eae34a9"), looks := false }, kinds := [], alts := [], laidByText := true, laidKinds := [.data, .pinned], laidTests := true, laidLooks := .later }
def WorkerKnownUptoCardSaid : Prop := Claim7.holds Tryz.pinned (.plain (OpenSpec.upto workerKnownSpec)) workerKnownUptoCard
end Rows
end Go.Proofs.YteakajbedjdggaaGreatDoor
