/-
  DERIVED. GIVEN WITH THE SEED: THE CARDS: each row of YtlhicnfeajejhaaGreatDoorRows.lean that lists a variable, with what it lists TIED to the program's text (the seventh form; the later family's looks); each row that meets fmt, with fmt's text TOLD by the authors' own Lean function (tested against real Go, not proved from fmt's source: count such statements apart). THE CARD IS WHAT COUNTS. Prove the row's statement (the work); the ties are given (YtlhicnfeajejhaaGreatDoorTie.lean); close each card by the builder's one call (the guide's Derived/Test/ToyasCard.lean, 'card_holds'). Laid BY PROGRAM, IN A SANDBOX (cutbox-door.mjs). By AI agents, Wed Nov 11 2026. No macro, syntax, notation, axiom, sorry.
-/
import Derived.Test.YtlhicnfeajejhaaGreatDoorRows
import GoSem.ClaimSeven
namespace Go.Proofs.YtlhicnfeajejhaaGreatDoor
namespace Rows

/-- THE TIED CARD OF 'cocyclelaw07.ChainsVectors'. -/
def chainsVectorsCard : Claim7 := { stood := { row := chainsVectorsRow, standIns := [], harness := (true, "92d07442a8f267c6ca9d7e166437079213be8c373cb0fee3aeb7dfa956eeb42e"), looks := false }, kinds := [], alts := [], laidByText := true, laidKinds := [.data, .pinned], laidTests := true, laidLooks := .later }
def ChainsVectorsCardSaid : Prop := Claim7.holds Tryz.pinned (.plain (OpenSpec.ofChange chainsVectorsSpec)) chainsVectorsCard

/-- THE TIED CARD OF 'cocyclelaw07.ChainsLinear'. -/
def chainsLinearCard : Claim7 := { stood := { row := chainsLinearRow, standIns := [], harness := (true, "92d07442a8f267c6ca9d7e166437079213be8c373cb0fee3aeb7dfa956eeb42e"), looks := false }, kinds := [], alts := [], laidByText := true, laidKinds := [.data, .pinned], laidTests := true, laidLooks := .later }
def ChainsLinearCardSaid : Prop := Claim7.holds Tryz.pinned (.plain (OpenSpec.ofChange chainsLinearSpec)) chainsLinearCard

/-- THE TIED CARD OF 'cocyclelaw13.MorseMatch'. -/
def morseMatchCard : Claim7 := { stood := { row := morseMatchRow, standIns := [], harness := (true, "92d07442a8f267c6ca9d7e166437079213be8c373cb0fee3aeb7dfa956eeb42e"), looks := false }, kinds := [], alts := [], laidByText := true, laidKinds := [.data, .pinned], laidTests := true, laidLooks := .later }
def MorseMatchCardSaid : Prop := Claim7.holds Tryz.pinned (.plain (OpenSpec.ofChange morseMatchSpec)) morseMatchCard

/-- THE TIED CARD OF 'cocyclelaw13.MorseClear'. -/
def morseClearCard : Claim7 := { stood := { row := morseClearRow, standIns := [], harness := (true, "92d07442a8f267c6ca9d7e166437079213be8c373cb0fee3aeb7dfa956eeb42e"), looks := false }, kinds := [], alts := [], laidByText := true, laidKinds := [.data, .pinned], laidTests := true, laidLooks := .later }
def MorseClearCardSaid : Prop := Claim7.holds Tryz.pinned (.plain (OpenSpec.ofChange morseClearSpec)) morseClearCard

/-- THE TIED CARD OF 'cocyclelaw13.MorseChecks'. -/
def morseChecksCard : Claim7 := { stood := { row := morseChecksRow, standIns := [], harness := (true, "92d07442a8f267c6ca9d7e166437079213be8c373cb0fee3aeb7dfa956eeb42e"), looks := false }, kinds := [], alts := [], laidByText := true, laidKinds := [.data, .pinned], laidTests := true, laidLooks := .later }
def MorseChecksCardSaid : Prop := Claim7.holds Tryz.pinned (.plain (OpenSpec.ofChange morseChecksSpec)) morseChecksCard

/-- THE TIED CARD OF 'cocyclelaw13.MorseParts'. -/
def morsePartsCard : Claim7 := { stood := { row := morsePartsRow, standIns := [], harness := (true, "92d07442a8f267c6ca9d7e166437079213be8c373cb0fee3aeb7dfa956eeb42e"), looks := false }, kinds := [], alts := [], laidByText := true, laidKinds := [.data, .pinned], laidTests := true, laidLooks := .later }
def MorsePartsCardSaid : Prop := Claim7.holds Tryz.pinned (.plain (OpenSpec.ofChange morsePartsSpec)) morsePartsCard

/-- THE TIED CARD OF 'cocyclelaw13.MorseMaps'. -/
def morseMapsCard : Claim7 := { stood := { row := morseMapsRow, standIns := [], harness := (true, "92d07442a8f267c6ca9d7e166437079213be8c373cb0fee3aeb7dfa956eeb42e"), looks := false }, kinds := [], alts := [], laidByText := true, laidKinds := [.data, .pinned], laidTests := true, laidLooks := .later }
def MorseMapsCardSaid : Prop := Claim7.holds Tryz.pinned (.plain (OpenSpec.ofChange morseMapsSpec)) morseMapsCard

/-- THE TIED CARD OF 'cocyclelaw13.MorseGroups'. -/
def morseGroupsCard : Claim7 := { stood := { row := morseGroupsRow, standIns := [], harness := (true, "92d07442a8f267c6ca9d7e166437079213be8c373cb0fee3aeb7dfa956eeb42e"), looks := false }, kinds := [], alts := [], laidByText := true, laidKinds := [.data, .pinned], laidTests := true, laidLooks := .later }
def MorseGroupsCardSaid : Prop := Claim7.holds Tryz.pinned (.plain (OpenSpec.ofChange morseGroupsSpec)) morseGroupsCard

/-- THE TIED CARD OF 'cocyclelaw13.MorseSpaces'. -/
def morseSpacesCard : Claim7 := { stood := { row := morseSpacesRow, standIns := [], harness := (true, "92d07442a8f267c6ca9d7e166437079213be8c373cb0fee3aeb7dfa956eeb42e"), looks := false }, kinds := [], alts := [], laidByText := true, laidKinds := [.data, .pinned], laidTests := true, laidLooks := .later }
def MorseSpacesCardSaid : Prop := Claim7.holds Tryz.pinned (.plain (OpenSpec.ofChange morseSpacesSpec)) morseSpacesCard

/-- THE TIED CARD OF 'cocyclelaw13.MorseTwice'. -/
def morseTwiceCard : Claim7 := { stood := { row := morseTwiceRow, standIns := [], harness := (true, "92d07442a8f267c6ca9d7e166437079213be8c373cb0fee3aeb7dfa956eeb42e"), looks := false }, kinds := [], alts := [], laidByText := true, laidKinds := [.data, .pinned], laidTests := true, laidLooks := .later }
def MorseTwiceCardSaid : Prop := Claim7.holds Tryz.pinned (.plain (OpenSpec.ofChange morseTwiceSpec)) morseTwiceCard

/-- THE TIED CARD OF 'cocyclelaw13.MorseEmpty'. -/
def morseEmptyCard : Claim7 := { stood := { row := morseEmptyRow, standIns := [], harness := (true, "92d07442a8f267c6ca9d7e166437079213be8c373cb0fee3aeb7dfa956eeb42e"), looks := false }, kinds := [], alts := [], laidByText := true, laidKinds := [.data, .pinned], laidTests := true, laidLooks := .later }
def MorseEmptyCardSaid : Prop := Claim7.holds Tryz.pinned (.plain (OpenSpec.ofChange morseEmptySpec)) morseEmptyCard

/-- THE TIED CARD OF 'cocyclelaw13.MorseKeeps'. -/
def morseKeepsCard : Claim7 := { stood := { row := morseKeepsRow, standIns := [], harness := (true, "92d07442a8f267c6ca9d7e166437079213be8c373cb0fee3aeb7dfa956eeb42e"), looks := false }, kinds := [], alts := [], laidByText := true, laidKinds := [.data, .pinned], laidTests := true, laidLooks := .later }
def MorseKeepsCardSaid : Prop := Claim7.holds Tryz.pinned (.plain (OpenSpec.ofChange morseKeepsSpec)) morseKeepsCard

/-- THE SECOND FORM's CARD OF 'cocyclelaw07.ChainsVectors'. -/
def chainsVectorsUptoCard : Claim7 := { stood := { row := chainsVectorsUptoRow, standIns := [], harness := (true, "92d07442a8f267c6ca9d7e166437079213be8c373cb0fee3aeb7dfa956eeb42e"), looks := false }, kinds := [], alts := [], laidByText := true, laidKinds := [.data, .pinned], laidTests := true, laidLooks := .later }
def ChainsVectorsUptoCardSaid : Prop := Claim7.holds Tryz.pinned (.plain (OpenSpec.upto chainsVectorsSpec)) chainsVectorsUptoCard

/-- THE SECOND FORM's CARD OF 'cocyclelaw07.ChainsLinear'. -/
def chainsLinearUptoCard : Claim7 := { stood := { row := chainsLinearUptoRow, standIns := [], harness := (true, "92d07442a8f267c6ca9d7e166437079213be8c373cb0fee3aeb7dfa956eeb42e"), looks := false }, kinds := [], alts := [], laidByText := true, laidKinds := [.data, .pinned], laidTests := true, laidLooks := .later }
def ChainsLinearUptoCardSaid : Prop := Claim7.holds Tryz.pinned (.plain (OpenSpec.upto chainsLinearSpec)) chainsLinearUptoCard

/-- THE SECOND FORM's CARD OF 'cocyclelaw13.MorseMatch'. -/
def morseMatchUptoCard : Claim7 := { stood := { row := morseMatchUptoRow, standIns := [], harness := (true, "92d07442a8f267c6ca9d7e166437079213be8c373cb0fee3aeb7dfa956eeb42e"), looks := false }, kinds := [], alts := [], laidByText := true, laidKinds := [.data, .pinned], laidTests := true, laidLooks := .later }
def MorseMatchUptoCardSaid : Prop := Claim7.holds Tryz.pinned (.plain (OpenSpec.upto morseMatchSpec)) morseMatchUptoCard

/-- THE SECOND FORM's CARD OF 'cocyclelaw13.MorseClear'. -/
def morseClearUptoCard : Claim7 := { stood := { row := morseClearUptoRow, standIns := [], harness := (true, "92d07442a8f267c6ca9d7e166437079213be8c373cb0fee3aeb7dfa956eeb42e"), looks := false }, kinds := [], alts := [], laidByText := true, laidKinds := [.data, .pinned], laidTests := true, laidLooks := .later }
def MorseClearUptoCardSaid : Prop := Claim7.holds Tryz.pinned (.plain (OpenSpec.upto morseClearSpec)) morseClearUptoCard

/-- THE SECOND FORM's CARD OF 'cocyclelaw13.MorseChecks'. -/
def morseChecksUptoCard : Claim7 := { stood := { row := morseChecksUptoRow, standIns := [], harness := (true, "92d07442a8f267c6ca9d7e166437079213be8c373cb0fee3aeb7dfa956eeb42e"), looks := false }, kinds := [], alts := [], laidByText := true, laidKinds := [.data, .pinned], laidTests := true, laidLooks := .later }
def MorseChecksUptoCardSaid : Prop := Claim7.holds Tryz.pinned (.plain (OpenSpec.upto morseChecksSpec)) morseChecksUptoCard

/-- THE SECOND FORM's CARD OF 'cocyclelaw13.MorseParts'. -/
def morsePartsUptoCard : Claim7 := { stood := { row := morsePartsUptoRow, standIns := [], harness := (true, "92d07442a8f267c6ca9d7e166437079213be8c373cb0fee3aeb7dfa956eeb42e"), looks := false }, kinds := [], alts := [], laidByText := true, laidKinds := [.data, .pinned], laidTests := true, laidLooks := .later }
def MorsePartsUptoCardSaid : Prop := Claim7.holds Tryz.pinned (.plain (OpenSpec.upto morsePartsSpec)) morsePartsUptoCard

/-- THE SECOND FORM's CARD OF 'cocyclelaw13.MorseMaps'. -/
def morseMapsUptoCard : Claim7 := { stood := { row := morseMapsUptoRow, standIns := [], harness := (true, "92d07442a8f267c6ca9d7e166437079213be8c373cb0fee3aeb7dfa956eeb42e"), looks := false }, kinds := [], alts := [], laidByText := true, laidKinds := [.data, .pinned], laidTests := true, laidLooks := .later }
def MorseMapsUptoCardSaid : Prop := Claim7.holds Tryz.pinned (.plain (OpenSpec.upto morseMapsSpec)) morseMapsUptoCard

/-- THE SECOND FORM's CARD OF 'cocyclelaw13.MorseGroups'. -/
def morseGroupsUptoCard : Claim7 := { stood := { row := morseGroupsUptoRow, standIns := [], harness := (true, "92d07442a8f267c6ca9d7e166437079213be8c373cb0fee3aeb7dfa956eeb42e"), looks := false }, kinds := [], alts := [], laidByText := true, laidKinds := [.data, .pinned], laidTests := true, laidLooks := .later }
def MorseGroupsUptoCardSaid : Prop := Claim7.holds Tryz.pinned (.plain (OpenSpec.upto morseGroupsSpec)) morseGroupsUptoCard

/-- THE SECOND FORM's CARD OF 'cocyclelaw13.MorseSpaces'. -/
def morseSpacesUptoCard : Claim7 := { stood := { row := morseSpacesUptoRow, standIns := [], harness := (true, "92d07442a8f267c6ca9d7e166437079213be8c373cb0fee3aeb7dfa956eeb42e"), looks := false }, kinds := [], alts := [], laidByText := true, laidKinds := [.data, .pinned], laidTests := true, laidLooks := .later }
def MorseSpacesUptoCardSaid : Prop := Claim7.holds Tryz.pinned (.plain (OpenSpec.upto morseSpacesSpec)) morseSpacesUptoCard

/-- THE SECOND FORM's CARD OF 'cocyclelaw13.MorseTwice'. -/
def morseTwiceUptoCard : Claim7 := { stood := { row := morseTwiceUptoRow, standIns := [], harness := (true, "92d07442a8f267c6ca9d7e166437079213be8c373cb0fee3aeb7dfa956eeb42e"), looks := false }, kinds := [], alts := [], laidByText := true, laidKinds := [.data, .pinned], laidTests := true, laidLooks := .later }
def MorseTwiceUptoCardSaid : Prop := Claim7.holds Tryz.pinned (.plain (OpenSpec.upto morseTwiceSpec)) morseTwiceUptoCard

/-- THE SECOND FORM's CARD OF 'cocyclelaw13.MorseEmpty'. -/
def morseEmptyUptoCard : Claim7 := { stood := { row := morseEmptyUptoRow, standIns := [], harness := (true, "92d07442a8f267c6ca9d7e166437079213be8c373cb0fee3aeb7dfa956eeb42e"), looks := false }, kinds := [], alts := [], laidByText := true, laidKinds := [.data, .pinned], laidTests := true, laidLooks := .later }
def MorseEmptyUptoCardSaid : Prop := Claim7.holds Tryz.pinned (.plain (OpenSpec.upto morseEmptySpec)) morseEmptyUptoCard

/-- THE SECOND FORM's CARD OF 'cocyclelaw13.MorseKeeps'. -/
def morseKeepsUptoCard : Claim7 := { stood := { row := morseKeepsUptoRow, standIns := [], harness := (true, "92d07442a8f267c6ca9d7e166437079213be8c373cb0fee3aeb7dfa956eeb42e"), looks := false }, kinds := [], alts := [], laidByText := true, laidKinds := [.data, .pinned], laidTests := true, laidLooks := .later }
def MorseKeepsUptoCardSaid : Prop := Claim7.holds Tryz.pinned (.plain (OpenSpec.upto morseKeepsSpec)) morseKeepsUptoCard
end Rows
end Go.Proofs.YtlhicnfeajejhaaGreatDoor
