/-
  DERIVED. GIVEN WITH THE SEED: THE CARDS: each row of YtmkpbhaoalbhjaaGreatDoorRows.lean that lists a variable, with what it lists TIED to the program's text (the seventh form; the later family's looks); each row that meets fmt, with fmt's text TOLD by the authors' own Lean function (tested against real Go, not proved from fmt's source: count such statements apart). THE CARD IS WHAT COUNTS. Prove the row's statement (the work); the ties are given (YtmkpbhaoalbhjaaGreatDoorTie.lean); close each card by the builder's one call (the guide's Derived/Test/ToyasCard.lean, 'card_holds'). Laid BY PROGRAM, IN A SANDBOX (cutbox-door.mjs). By AI agents, Wed Nov 11 2026. No macro, syntax, notation, axiom, sorry.
-/
import Derived.Test.YtmkpbhaoalbhjaaGreatDoorRows
import GoSem.ClaimSeven
namespace Go.Proofs.YtmkpbhaoalbhjaaGreatDoor
namespace Rows

/-- THE TIED CARD OF 'cocyclelaw19.SequenceChecks'. -/
def sequenceChecksCard : Claim7 := { stood := { row := sequenceChecksRow, standIns := [], harness := (true, "08757a549eec2a9f196b367df08bf8946c59c8406f9b4a511037df8e3f14264e"), looks := false }, kinds := [], alts := [], laidByText := true, laidKinds := [.data, .pinned], laidTests := true, laidLooks := .later }
def SequenceChecksCardSaid : Prop := Claim7.holds Tryz.pinned (.plain (OpenSpec.ofChange sequenceChecksSpec)) sequenceChecksCard

/-- THE SECOND FORM's CARD OF 'cocyclelaw19.SequenceChecks'. -/
def sequenceChecksUptoCard : Claim7 := { stood := { row := sequenceChecksUptoRow, standIns := [], harness := (true, "08757a549eec2a9f196b367df08bf8946c59c8406f9b4a511037df8e3f14264e"), looks := false }, kinds := [], alts := [], laidByText := true, laidKinds := [.data, .pinned], laidTests := true, laidLooks := .later }
def SequenceChecksUptoCardSaid : Prop := Claim7.holds Tryz.pinned (.plain (OpenSpec.upto sequenceChecksSpec)) sequenceChecksUptoCard
end Rows
end Go.Proofs.YtmkpbhaoalbhjaaGreatDoor
