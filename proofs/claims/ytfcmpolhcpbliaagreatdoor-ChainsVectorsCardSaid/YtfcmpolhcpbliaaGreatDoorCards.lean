/-
  DERIVED. GIVEN WITH THE SEED: THE CARDS: each row of YtfcmpolhcpbliaaGreatDoorRows.lean that lists a variable, with what it lists TIED to the program's text (the seventh form; the later family's looks); each row that meets fmt, with fmt's text TOLD by the authors' own Lean function (tested against real Go, not proved from fmt's source: count such statements apart). THE CARD IS WHAT COUNTS. Prove the row's statement (the work); the ties are given (YtfcmpolhcpbliaaGreatDoorTie.lean); close each card by the builder's one call (the guide's Derived/Test/ToyasCard.lean, 'card_holds'). Laid BY PROGRAM, IN A SANDBOX (cutbox-door.mjs). By AI agents, Wed Nov 11 2026. No macro, syntax, notation, axiom, sorry.
-/
import Derived.Test.YtfcmpolhcpbliaaGreatDoorRows
import GoSem.ClaimSeven
namespace Go.Proofs.YtfcmpolhcpbliaaGreatDoor
namespace Rows

/-- THE TIED CARD OF 'cocyclelaw07.ChainsBounds'. -/
def chainsBoundsCard : Claim7 := { stood := { row := chainsBoundsRow, standIns := [], harness := (true, "254bfbed86f56e19bddb1984cedf6d814cea51055a6660de69f8bf7fa1270da8"), looks := false }, kinds := [], alts := [], laidByText := true, laidKinds := [.data, .pinned], laidTests := true, laidLooks := .later }
def ChainsBoundsCardSaid : Prop := Claim7.holds Tryz.pinned (.plain (OpenSpec.ofChange chainsBoundsSpec)) chainsBoundsCard

/-- THE TIED CARD OF 'cocyclelaw07.ChainsRaw'. -/
def chainsRawCard : Claim7 := { stood := { row := chainsRawRow, standIns := [], harness := (true, "254bfbed86f56e19bddb1984cedf6d814cea51055a6660de69f8bf7fa1270da8"), looks := false }, kinds := [], alts := [], laidByText := true, laidKinds := [.data, .pinned], laidTests := true, laidLooks := .later }
def ChainsRawCardSaid : Prop := Claim7.holds Tryz.pinned (.plain (OpenSpec.ofChange chainsRawSpec)) chainsRawCard

/-- THE TIED CARD OF 'cocyclelaw07.ChainsTwice'. -/
def chainsTwiceCard : Claim7 := { stood := { row := chainsTwiceRow, standIns := [], harness := (true, "254bfbed86f56e19bddb1984cedf6d814cea51055a6660de69f8bf7fa1270da8"), looks := false }, kinds := [], alts := [], laidByText := true, laidKinds := [.data, .pinned], laidTests := true, laidLooks := .later }
def ChainsTwiceCardSaid : Prop := Claim7.holds Tryz.pinned (.plain (OpenSpec.ofChange chainsTwiceSpec)) chainsTwiceCard

/-- THE TIED CARD OF 'cocyclelaw07.ChainsVectors'. -/
def chainsVectorsCard : Claim7 := { stood := { row := chainsVectorsRow, standIns := [], harness := (true, "254bfbed86f56e19bddb1984cedf6d814cea51055a6660de69f8bf7fa1270da8"), looks := false }, kinds := [], alts := [], laidByText := true, laidKinds := [.data, .pinned], laidTests := true, laidLooks := .later }
def ChainsVectorsCardSaid : Prop := Claim7.holds Tryz.pinned (.plain (OpenSpec.ofChange chainsVectorsSpec)) chainsVectorsCard

/-- THE TIED CARD OF 'cocyclelaw07.ChainsWide'. -/
def chainsWideCard : Claim7 := { stood := { row := chainsWideRow, standIns := [], harness := (true, "254bfbed86f56e19bddb1984cedf6d814cea51055a6660de69f8bf7fa1270da8"), looks := false }, kinds := [], alts := [], laidByText := true, laidKinds := [.data, .pinned], laidTests := true, laidLooks := .later }
def ChainsWideCardSaid : Prop := Claim7.holds Tryz.pinned (.plain (OpenSpec.ofChange chainsWideSpec)) chainsWideCard

/-- THE TIED CARD OF 'cocyclelaw07.ChainsSums'. -/
def chainsSumsCard : Claim7 := { stood := { row := chainsSumsRow, standIns := [], harness := (true, "254bfbed86f56e19bddb1984cedf6d814cea51055a6660de69f8bf7fa1270da8"), looks := false }, kinds := [], alts := [], laidByText := true, laidKinds := [.data, .pinned], laidTests := true, laidLooks := .later }
def ChainsSumsCardSaid : Prop := Claim7.holds Tryz.pinned (.plain (OpenSpec.ofChange chainsSumsSpec)) chainsSumsCard

/-- THE TIED CARD OF 'cocyclelaw07.ChainsLinear'. -/
def chainsLinearCard : Claim7 := { stood := { row := chainsLinearRow, standIns := [], harness := (true, "254bfbed86f56e19bddb1984cedf6d814cea51055a6660de69f8bf7fa1270da8"), looks := false }, kinds := [], alts := [], laidByText := true, laidKinds := [.data, .pinned], laidTests := true, laidLooks := .later }
def ChainsLinearCardSaid : Prop := Claim7.holds Tryz.pinned (.plain (OpenSpec.ofChange chainsLinearSpec)) chainsLinearCard

/-- THE TIED CARD OF 'cocyclelaw07.ChainsKeeps'. -/
def chainsKeepsCard : Claim7 := { stood := { row := chainsKeepsRow, standIns := [], harness := (true, "254bfbed86f56e19bddb1984cedf6d814cea51055a6660de69f8bf7fa1270da8"), looks := false }, kinds := [], alts := [], laidByText := true, laidKinds := [.data, .pinned], laidTests := true, laidLooks := .later }
def ChainsKeepsCardSaid : Prop := Claim7.holds Tryz.pinned (.plain (OpenSpec.ofChange chainsKeepsSpec)) chainsKeepsCard

/-- THE SECOND FORM's CARD OF 'cocyclelaw07.ChainsBounds'. -/
def chainsBoundsUptoCard : Claim7 := { stood := { row := chainsBoundsUptoRow, standIns := [], harness := (true, "254bfbed86f56e19bddb1984cedf6d814cea51055a6660de69f8bf7fa1270da8"), looks := false }, kinds := [], alts := [], laidByText := true, laidKinds := [.data, .pinned], laidTests := true, laidLooks := .later }
def ChainsBoundsUptoCardSaid : Prop := Claim7.holds Tryz.pinned (.plain (OpenSpec.upto chainsBoundsSpec)) chainsBoundsUptoCard

/-- THE SECOND FORM's CARD OF 'cocyclelaw07.ChainsRaw'. -/
def chainsRawUptoCard : Claim7 := { stood := { row := chainsRawUptoRow, standIns := [], harness := (true, "254bfbed86f56e19bddb1984cedf6d814cea51055a6660de69f8bf7fa1270da8"), looks := false }, kinds := [], alts := [], laidByText := true, laidKinds := [.data, .pinned], laidTests := true, laidLooks := .later }
def ChainsRawUptoCardSaid : Prop := Claim7.holds Tryz.pinned (.plain (OpenSpec.upto chainsRawSpec)) chainsRawUptoCard

/-- THE SECOND FORM's CARD OF 'cocyclelaw07.ChainsTwice'. -/
def chainsTwiceUptoCard : Claim7 := { stood := { row := chainsTwiceUptoRow, standIns := [], harness := (true, "254bfbed86f56e19bddb1984cedf6d814cea51055a6660de69f8bf7fa1270da8"), looks := false }, kinds := [], alts := [], laidByText := true, laidKinds := [.data, .pinned], laidTests := true, laidLooks := .later }
def ChainsTwiceUptoCardSaid : Prop := Claim7.holds Tryz.pinned (.plain (OpenSpec.upto chainsTwiceSpec)) chainsTwiceUptoCard

/-- THE SECOND FORM's CARD OF 'cocyclelaw07.ChainsVectors'. -/
def chainsVectorsUptoCard : Claim7 := { stood := { row := chainsVectorsUptoRow, standIns := [], harness := (true, "254bfbed86f56e19bddb1984cedf6d814cea51055a6660de69f8bf7fa1270da8"), looks := false }, kinds := [], alts := [], laidByText := true, laidKinds := [.data, .pinned], laidTests := true, laidLooks := .later }
def ChainsVectorsUptoCardSaid : Prop := Claim7.holds Tryz.pinned (.plain (OpenSpec.upto chainsVectorsSpec)) chainsVectorsUptoCard

/-- THE SECOND FORM's CARD OF 'cocyclelaw07.ChainsWide'. -/
def chainsWideUptoCard : Claim7 := { stood := { row := chainsWideUptoRow, standIns := [], harness := (true, "254bfbed86f56e19bddb1984cedf6d814cea51055a6660de69f8bf7fa1270da8"), looks := false }, kinds := [], alts := [], laidByText := true, laidKinds := [.data, .pinned], laidTests := true, laidLooks := .later }
def ChainsWideUptoCardSaid : Prop := Claim7.holds Tryz.pinned (.plain (OpenSpec.upto chainsWideSpec)) chainsWideUptoCard

/-- THE SECOND FORM's CARD OF 'cocyclelaw07.ChainsSums'. -/
def chainsSumsUptoCard : Claim7 := { stood := { row := chainsSumsUptoRow, standIns := [], harness := (true, "254bfbed86f56e19bddb1984cedf6d814cea51055a6660de69f8bf7fa1270da8"), looks := false }, kinds := [], alts := [], laidByText := true, laidKinds := [.data, .pinned], laidTests := true, laidLooks := .later }
def ChainsSumsUptoCardSaid : Prop := Claim7.holds Tryz.pinned (.plain (OpenSpec.upto chainsSumsSpec)) chainsSumsUptoCard

/-- THE SECOND FORM's CARD OF 'cocyclelaw07.ChainsLinear'. -/
def chainsLinearUptoCard : Claim7 := { stood := { row := chainsLinearUptoRow, standIns := [], harness := (true, "254bfbed86f56e19bddb1984cedf6d814cea51055a6660de69f8bf7fa1270da8"), looks := false }, kinds := [], alts := [], laidByText := true, laidKinds := [.data, .pinned], laidTests := true, laidLooks := .later }
def ChainsLinearUptoCardSaid : Prop := Claim7.holds Tryz.pinned (.plain (OpenSpec.upto chainsLinearSpec)) chainsLinearUptoCard

/-- THE SECOND FORM's CARD OF 'cocyclelaw07.ChainsKeeps'. -/
def chainsKeepsUptoCard : Claim7 := { stood := { row := chainsKeepsUptoRow, standIns := [], harness := (true, "254bfbed86f56e19bddb1984cedf6d814cea51055a6660de69f8bf7fa1270da8"), looks := false }, kinds := [], alts := [], laidByText := true, laidKinds := [.data, .pinned], laidTests := true, laidLooks := .later }
def ChainsKeepsUptoCardSaid : Prop := Claim7.holds Tryz.pinned (.plain (OpenSpec.upto chainsKeepsSpec)) chainsKeepsUptoCard
end Rows
end Go.Proofs.YtfcmpolhcpbliaaGreatDoor
