/-
  NARROWER THAN 'FOR EVERY INPUT', by the rows' own cells (each row's printed sentence says how): ChainsVectors: laid · ChainsLinear: laid · MorseMatch: laid · MorseClear: laid · MorseChecks: laid · MorseParts: laid · MorseMaps: laid · MorseGroups: laid · MorseSpaces: laid · MorseTwice: laid · MorseEmpty: laid · MorseKeeps: laid.
  DERIVED. THE GIVEN ROWS OF THIS SEAT. 12 by the template 'for every input the law returns true; each argument reads behind the call as it read before'; 0 by the template 'total and deterministic' (their statements: YtlhicnfeajejhaaGreatDoorTotals.lean).
  GIVEN WITH THE SEED: the statements are not yours to turn. If you find one false, say at which input.
  Laid BY PROGRAM, IN A SANDBOX (cutbox-rows.mjs): the forced cells as the released guide's own fill.sh prints them over the translation d6f40d10b257698e… (all of the seat's roots in one cut). By AI agents, Wed Nov 11 2026. No macro, syntax, notation, axiom, sorry.
-/
import Derived.Test.YtlhicnfeajejhaaGreatDoorChecked
import GoSem.PinnedTables
import GoSem.Claim
import GoSem.ClaimJoined
import GoSem.ClaimMapViews
import Derived.JoinedTies
import Derived.KernelRfl
namespace Go.Proofs.YtlhicnfeajejhaaGreatDoor
/- THE CELL 'sum', in the pinned program and in every row, IS THE sha256 OF THE DUMP (.gsa) THAT YtlhicnfeajejhaaGreatDoorProg.lean LOADS. Nothing in Lean hashes anything: it is a label: what it is worth is what the hold of that sum in a sandbox is worth. -/
noncomputable def Tryz.pinned : Pinned := { name := "ytlhicnfeajejhaagreatdoor", sum := "d6f40d10b257698e0f8529fa7078ff25092bbb065eda77dbf4cf3460495a6c17", checked := Tryz.checked }
namespace Rows
def none {H : Type} : Left H := { results := [], args := [] }

/- WHAT THE LISTED PACKAGE-LEVEL VARIABLES READ AS WHEN THE CALL BEGINS. Each datum BY PROGRAM (the guide's laid-datum.mjs) off the statement by which the dump's own 'gosem.cut.vars' lays the variable. In a bare row this is a premise. The card (YtlhicnfeajejhaaGreatDoorCards.lean) ties it to the program's text. -/
def laid_unicode_utf8_acceptRanges {H : Type} : DataW H := .agg [.agg [.lit (.int .u8 128), .lit (.int .u8 191)], .agg [.lit (.int .u8 160), .lit (.int .u8 191)], .agg [.lit (.int .u8 128), .lit (.int .u8 159)], .agg [.lit (.int .u8 144), .lit (.int .u8 191)], .agg [.lit (.int .u8 128), .lit (.int .u8 143)], .agg [.lit (.int .u8 0), .lit (.int .u8 0)], .agg [.lit (.int .u8 0), .lit (.int .u8 0)], .agg [.lit (.int .u8 0), .lit (.int .u8 0)], .agg [.lit (.int .u8 0), .lit (.int .u8 0)], .agg [.lit (.int .u8 0), .lit (.int .u8 0)], .agg [.lit (.int .u8 0), .lit (.int .u8 0)], .agg [.lit (.int .u8 0), .lit (.int .u8 0)], .agg [.lit (.int .u8 0), .lit (.int .u8 0)], .agg [.lit (.int .u8 0), .lit (.int .u8 0)], .agg [.lit (.int .u8 0), .lit (.int .u8 0)], .agg [.lit (.int .u8 0), .lit (.int .u8 0)]]
/-- One of Go's own tables, pinned by name: the form's constant. -/
def laid_unicode_utf8_first : DataW Unit := Go.Pinned.utf8First

/-- 'cocyclelaw07.ChainsVectors': WHATEVER THE INPUT: true; the input reads as it did. -/
def chainsVectorsSpec : ChangeSpec := { name := "chainsVectors", fn := fun _ => fun
  | [d1, d2, d3] => { results := [.lit (.bool true)], args := [d1, d2, d3] }
  | _ => none }
def chainsVectorsRow : OpenClaim := { program := "ytlhicnfeajejhaagreatdoor", sum := "d6f40d10b257698e0f8529fa7078ff25092bbb065eda77dbf4cf3460495a6c17", func := "cocycle/cocyclelaw07.ChainsVectors", spec := "chainsVectors", inPlace := ["internal/bytealg.IndexByteString", "internal/bytealg.IndexString"], unfollowed := true, recurses := true, named := ["unicode/utf8.first", "unicode/utf8.acceptRanges", "internal/bytealg.MaxLen"], apart := false, laid := [("unicode/utf8.acceptRanges", laid_unicode_utf8_acceptRanges), ("unicode/utf8.first", laid_unicode_utf8_first)] }
def ChainsVectorsSaid : Prop := chainsVectorsRow.holds Tryz.pinned (OpenSpec.ofChange chainsVectorsSpec)

/-- ITS FALSE NEIGHBOUR: 'it returns false'. Refute it at one input. -/
def chainsVectorsWrong : ChangeSpec := { name := "chainsVectors", fn := fun _ => fun
  | [d1, d2, d3] => { results := [.lit (.bool false)], args := [d1, d2, d3] }
  | _ => none }
def ChainsVectorsWrongFalsely : Prop := chainsVectorsRow.holds Tryz.pinned (OpenSpec.ofChange chainsVectorsWrong)

/-- 'cocyclelaw07.ChainsLinear': WHATEVER THE INPUT: true; the input reads as it did. -/
def chainsLinearSpec : ChangeSpec := { name := "chainsLinear", fn := fun _ => fun
  | [d1, d2, d3] => { results := [.lit (.bool true)], args := [d1, d2, d3] }
  | _ => none }
def chainsLinearRow : OpenClaim := { program := "ytlhicnfeajejhaagreatdoor", sum := "d6f40d10b257698e0f8529fa7078ff25092bbb065eda77dbf4cf3460495a6c17", func := "cocycle/cocyclelaw07.ChainsLinear", spec := "chainsLinear", inPlace := ["internal/bytealg.IndexByteString", "internal/bytealg.IndexString"], unfollowed := true, recurses := true, named := ["unicode/utf8.first", "unicode/utf8.acceptRanges", "internal/bytealg.MaxLen"], apart := false, laid := [("unicode/utf8.acceptRanges", laid_unicode_utf8_acceptRanges), ("unicode/utf8.first", laid_unicode_utf8_first)] }
def ChainsLinearSaid : Prop := chainsLinearRow.holds Tryz.pinned (OpenSpec.ofChange chainsLinearSpec)

/-- ITS FALSE NEIGHBOUR: 'it returns false'. Refute it at one input. -/
def chainsLinearWrong : ChangeSpec := { name := "chainsLinear", fn := fun _ => fun
  | [d1, d2, d3] => { results := [.lit (.bool false)], args := [d1, d2, d3] }
  | _ => none }
def ChainsLinearWrongFalsely : Prop := chainsLinearRow.holds Tryz.pinned (OpenSpec.ofChange chainsLinearWrong)

/-- 'cocyclelaw13.MorseMatch': WHATEVER THE INPUT: true; the input reads as it did. -/
def morseMatchSpec : ChangeSpec := { name := "morseMatch", fn := fun _ => fun
  | [d1, d2] => { results := [.lit (.bool true)], args := [d1, d2] }
  | _ => none }
def morseMatchRow : OpenClaim := { program := "ytlhicnfeajejhaagreatdoor", sum := "d6f40d10b257698e0f8529fa7078ff25092bbb065eda77dbf4cf3460495a6c17", func := "cocycle/cocyclelaw13.MorseMatch", spec := "morseMatch", inPlace := ["internal/bytealg.IndexByteString", "internal/bytealg.IndexString"], unfollowed := true, recurses := true, named := ["unicode/utf8.first", "unicode/utf8.acceptRanges", "internal/bytealg.MaxLen"], apart := false, laid := [("unicode/utf8.acceptRanges", laid_unicode_utf8_acceptRanges), ("unicode/utf8.first", laid_unicode_utf8_first)] }
def MorseMatchSaid : Prop := morseMatchRow.holds Tryz.pinned (OpenSpec.ofChange morseMatchSpec)

/-- ITS FALSE NEIGHBOUR: 'it returns false'. Refute it at one input. -/
def morseMatchWrong : ChangeSpec := { name := "morseMatch", fn := fun _ => fun
  | [d1, d2] => { results := [.lit (.bool false)], args := [d1, d2] }
  | _ => none }
def MorseMatchWrongFalsely : Prop := morseMatchRow.holds Tryz.pinned (OpenSpec.ofChange morseMatchWrong)

/-- 'cocyclelaw13.MorseClear': WHATEVER THE INPUT: true; the input reads as it did. -/
def morseClearSpec : ChangeSpec := { name := "morseClear", fn := fun _ => fun
  | [d1, d2] => { results := [.lit (.bool true)], args := [d1, d2] }
  | _ => none }
def morseClearRow : OpenClaim := { program := "ytlhicnfeajejhaagreatdoor", sum := "d6f40d10b257698e0f8529fa7078ff25092bbb065eda77dbf4cf3460495a6c17", func := "cocycle/cocyclelaw13.MorseClear", spec := "morseClear", inPlace := ["internal/bytealg.IndexByteString", "internal/bytealg.IndexString"], unfollowed := true, recurses := true, named := ["unicode/utf8.first", "unicode/utf8.acceptRanges", "internal/bytealg.MaxLen"], apart := false, laid := [("unicode/utf8.acceptRanges", laid_unicode_utf8_acceptRanges), ("unicode/utf8.first", laid_unicode_utf8_first)] }
def MorseClearSaid : Prop := morseClearRow.holds Tryz.pinned (OpenSpec.ofChange morseClearSpec)

/-- ITS FALSE NEIGHBOUR: 'it returns false'. Refute it at one input. -/
def morseClearWrong : ChangeSpec := { name := "morseClear", fn := fun _ => fun
  | [d1, d2] => { results := [.lit (.bool false)], args := [d1, d2] }
  | _ => none }
def MorseClearWrongFalsely : Prop := morseClearRow.holds Tryz.pinned (OpenSpec.ofChange morseClearWrong)

/-- 'cocyclelaw13.MorseChecks': WHATEVER THE INPUT: true; the input reads as it did. -/
def morseChecksSpec : ChangeSpec := { name := "morseChecks", fn := fun _ => fun
  | [d1, d2, d3] => { results := [.lit (.bool true)], args := [d1, d2, d3] }
  | _ => none }
def morseChecksRow : OpenClaim := { program := "ytlhicnfeajejhaagreatdoor", sum := "d6f40d10b257698e0f8529fa7078ff25092bbb065eda77dbf4cf3460495a6c17", func := "cocycle/cocyclelaw13.MorseChecks", spec := "morseChecks", inPlace := ["internal/bytealg.IndexByteString", "internal/bytealg.IndexString"], unfollowed := true, recurses := true, named := ["unicode/utf8.first", "unicode/utf8.acceptRanges", "internal/bytealg.MaxLen"], apart := false, laid := [("unicode/utf8.acceptRanges", laid_unicode_utf8_acceptRanges), ("unicode/utf8.first", laid_unicode_utf8_first)] }
def MorseChecksSaid : Prop := morseChecksRow.holds Tryz.pinned (OpenSpec.ofChange morseChecksSpec)

/-- ITS FALSE NEIGHBOUR: 'it returns false'. Refute it at one input. -/
def morseChecksWrong : ChangeSpec := { name := "morseChecks", fn := fun _ => fun
  | [d1, d2, d3] => { results := [.lit (.bool false)], args := [d1, d2, d3] }
  | _ => none }
def MorseChecksWrongFalsely : Prop := morseChecksRow.holds Tryz.pinned (OpenSpec.ofChange morseChecksWrong)

/-- 'cocyclelaw13.MorseParts': WHATEVER THE INPUT: true; the input reads as it did. -/
def morsePartsSpec : ChangeSpec := { name := "morseParts", fn := fun _ => fun
  | [d1, d2, d3] => { results := [.lit (.bool true)], args := [d1, d2, d3] }
  | _ => none }
def morsePartsRow : OpenClaim := { program := "ytlhicnfeajejhaagreatdoor", sum := "d6f40d10b257698e0f8529fa7078ff25092bbb065eda77dbf4cf3460495a6c17", func := "cocycle/cocyclelaw13.MorseParts", spec := "morseParts", inPlace := ["internal/bytealg.IndexByteString", "internal/bytealg.IndexString"], unfollowed := true, recurses := true, named := ["unicode/utf8.first", "unicode/utf8.acceptRanges", "internal/bytealg.MaxLen"], apart := false, laid := [("unicode/utf8.acceptRanges", laid_unicode_utf8_acceptRanges), ("unicode/utf8.first", laid_unicode_utf8_first)] }
def MorsePartsSaid : Prop := morsePartsRow.holds Tryz.pinned (OpenSpec.ofChange morsePartsSpec)

/-- ITS FALSE NEIGHBOUR: 'it returns false'. Refute it at one input. -/
def morsePartsWrong : ChangeSpec := { name := "morseParts", fn := fun _ => fun
  | [d1, d2, d3] => { results := [.lit (.bool false)], args := [d1, d2, d3] }
  | _ => none }
def MorsePartsWrongFalsely : Prop := morsePartsRow.holds Tryz.pinned (OpenSpec.ofChange morsePartsWrong)

/-- 'cocyclelaw13.MorseMaps': WHATEVER THE INPUT: true; the input reads as it did. -/
def morseMapsSpec : ChangeSpec := { name := "morseMaps", fn := fun _ => fun
  | [d1, d2, d3] => { results := [.lit (.bool true)], args := [d1, d2, d3] }
  | _ => none }
def morseMapsRow : OpenClaim := { program := "ytlhicnfeajejhaagreatdoor", sum := "d6f40d10b257698e0f8529fa7078ff25092bbb065eda77dbf4cf3460495a6c17", func := "cocycle/cocyclelaw13.MorseMaps", spec := "morseMaps", inPlace := ["internal/bytealg.IndexByteString", "internal/bytealg.IndexString"], unfollowed := true, recurses := true, named := ["unicode/utf8.first", "unicode/utf8.acceptRanges", "internal/bytealg.MaxLen"], apart := false, laid := [("unicode/utf8.acceptRanges", laid_unicode_utf8_acceptRanges), ("unicode/utf8.first", laid_unicode_utf8_first)] }
def MorseMapsSaid : Prop := morseMapsRow.holds Tryz.pinned (OpenSpec.ofChange morseMapsSpec)

/-- ITS FALSE NEIGHBOUR: 'it returns false'. Refute it at one input. -/
def morseMapsWrong : ChangeSpec := { name := "morseMaps", fn := fun _ => fun
  | [d1, d2, d3] => { results := [.lit (.bool false)], args := [d1, d2, d3] }
  | _ => none }
def MorseMapsWrongFalsely : Prop := morseMapsRow.holds Tryz.pinned (OpenSpec.ofChange morseMapsWrong)

/-- 'cocyclelaw13.MorseGroups': WHATEVER THE INPUT: true; the input reads as it did. -/
def morseGroupsSpec : ChangeSpec := { name := "morseGroups", fn := fun _ => fun
  | [d1, d2] => { results := [.lit (.bool true)], args := [d1, d2] }
  | _ => none }
def morseGroupsRow : OpenClaim := { program := "ytlhicnfeajejhaagreatdoor", sum := "d6f40d10b257698e0f8529fa7078ff25092bbb065eda77dbf4cf3460495a6c17", func := "cocycle/cocyclelaw13.MorseGroups", spec := "morseGroups", inPlace := ["internal/bytealg.IndexByteString", "internal/bytealg.IndexString"], unfollowed := true, recurses := true, named := ["unicode/utf8.first", "unicode/utf8.acceptRanges", "internal/bytealg.MaxLen"], apart := false, laid := [("unicode/utf8.acceptRanges", laid_unicode_utf8_acceptRanges), ("unicode/utf8.first", laid_unicode_utf8_first)] }
def MorseGroupsSaid : Prop := morseGroupsRow.holds Tryz.pinned (OpenSpec.ofChange morseGroupsSpec)

/-- ITS FALSE NEIGHBOUR: 'it returns false'. Refute it at one input. -/
def morseGroupsWrong : ChangeSpec := { name := "morseGroups", fn := fun _ => fun
  | [d1, d2] => { results := [.lit (.bool false)], args := [d1, d2] }
  | _ => none }
def MorseGroupsWrongFalsely : Prop := morseGroupsRow.holds Tryz.pinned (OpenSpec.ofChange morseGroupsWrong)

/-- 'cocyclelaw13.MorseSpaces': WHATEVER THE INPUT: true; the input reads as it did. -/
def morseSpacesSpec : ChangeSpec := { name := "morseSpaces", fn := fun _ => fun
  | [d1, d2] => { results := [.lit (.bool true)], args := [d1, d2] }
  | _ => none }
def morseSpacesRow : OpenClaim := { program := "ytlhicnfeajejhaagreatdoor", sum := "d6f40d10b257698e0f8529fa7078ff25092bbb065eda77dbf4cf3460495a6c17", func := "cocycle/cocyclelaw13.MorseSpaces", spec := "morseSpaces", inPlace := ["internal/bytealg.IndexByteString", "internal/bytealg.IndexString"], unfollowed := true, recurses := true, named := ["unicode/utf8.first", "unicode/utf8.acceptRanges", "internal/bytealg.MaxLen"], apart := false, laid := [("unicode/utf8.acceptRanges", laid_unicode_utf8_acceptRanges), ("unicode/utf8.first", laid_unicode_utf8_first)] }
def MorseSpacesSaid : Prop := morseSpacesRow.holds Tryz.pinned (OpenSpec.ofChange morseSpacesSpec)

/-- ITS FALSE NEIGHBOUR: 'it returns false'. Refute it at one input. -/
def morseSpacesWrong : ChangeSpec := { name := "morseSpaces", fn := fun _ => fun
  | [d1, d2] => { results := [.lit (.bool false)], args := [d1, d2] }
  | _ => none }
def MorseSpacesWrongFalsely : Prop := morseSpacesRow.holds Tryz.pinned (OpenSpec.ofChange morseSpacesWrong)

/-- 'cocyclelaw13.MorseTwice': WHATEVER THE INPUT: true; the input reads as it did. -/
def morseTwiceSpec : ChangeSpec := { name := "morseTwice", fn := fun _ => fun
  | [d1, d2] => { results := [.lit (.bool true)], args := [d1, d2] }
  | _ => none }
def morseTwiceRow : OpenClaim := { program := "ytlhicnfeajejhaagreatdoor", sum := "d6f40d10b257698e0f8529fa7078ff25092bbb065eda77dbf4cf3460495a6c17", func := "cocycle/cocyclelaw13.MorseTwice", spec := "morseTwice", inPlace := ["internal/bytealg.IndexByteString", "internal/bytealg.IndexString"], unfollowed := true, recurses := true, named := ["unicode/utf8.first", "unicode/utf8.acceptRanges", "internal/bytealg.MaxLen"], apart := false, laid := [("unicode/utf8.acceptRanges", laid_unicode_utf8_acceptRanges), ("unicode/utf8.first", laid_unicode_utf8_first)] }
def MorseTwiceSaid : Prop := morseTwiceRow.holds Tryz.pinned (OpenSpec.ofChange morseTwiceSpec)

/-- ITS FALSE NEIGHBOUR: 'it returns false'. Refute it at one input. -/
def morseTwiceWrong : ChangeSpec := { name := "morseTwice", fn := fun _ => fun
  | [d1, d2] => { results := [.lit (.bool false)], args := [d1, d2] }
  | _ => none }
def MorseTwiceWrongFalsely : Prop := morseTwiceRow.holds Tryz.pinned (OpenSpec.ofChange morseTwiceWrong)

/-- 'cocyclelaw13.MorseEmpty': WHATEVER THE INPUT: true; the input reads as it did. -/
def morseEmptySpec : ChangeSpec := { name := "morseEmpty", fn := fun _ => fun
  | [d1, d2] => { results := [.lit (.bool true)], args := [d1, d2] }
  | _ => none }
def morseEmptyRow : OpenClaim := { program := "ytlhicnfeajejhaagreatdoor", sum := "d6f40d10b257698e0f8529fa7078ff25092bbb065eda77dbf4cf3460495a6c17", func := "cocycle/cocyclelaw13.MorseEmpty", spec := "morseEmpty", inPlace := ["internal/bytealg.IndexByteString", "internal/bytealg.IndexString"], unfollowed := true, recurses := true, named := ["unicode/utf8.first", "unicode/utf8.acceptRanges", "internal/bytealg.MaxLen"], apart := false, laid := [("unicode/utf8.acceptRanges", laid_unicode_utf8_acceptRanges), ("unicode/utf8.first", laid_unicode_utf8_first)] }
def MorseEmptySaid : Prop := morseEmptyRow.holds Tryz.pinned (OpenSpec.ofChange morseEmptySpec)

/-- ITS FALSE NEIGHBOUR: 'it returns false'. Refute it at one input. -/
def morseEmptyWrong : ChangeSpec := { name := "morseEmpty", fn := fun _ => fun
  | [d1, d2] => { results := [.lit (.bool false)], args := [d1, d2] }
  | _ => none }
def MorseEmptyWrongFalsely : Prop := morseEmptyRow.holds Tryz.pinned (OpenSpec.ofChange morseEmptyWrong)

/-- 'cocyclelaw13.MorseKeeps': WHATEVER THE INPUT: true; the input reads as it did. -/
def morseKeepsSpec : ChangeSpec := { name := "morseKeeps", fn := fun _ => fun
  | [d1, d2, d3] => { results := [.lit (.bool true)], args := [d1, d2, d3] }
  | _ => none }
def morseKeepsRow : OpenClaim := { program := "ytlhicnfeajejhaagreatdoor", sum := "d6f40d10b257698e0f8529fa7078ff25092bbb065eda77dbf4cf3460495a6c17", func := "cocycle/cocyclelaw13.MorseKeeps", spec := "morseKeeps", inPlace := ["internal/bytealg.IndexByteString", "internal/bytealg.IndexString"], unfollowed := true, recurses := true, named := ["unicode/utf8.first", "unicode/utf8.acceptRanges", "internal/bytealg.MaxLen"], apart := false, laid := [("unicode/utf8.acceptRanges", laid_unicode_utf8_acceptRanges), ("unicode/utf8.first", laid_unicode_utf8_first)] }
def MorseKeepsSaid : Prop := morseKeepsRow.holds Tryz.pinned (OpenSpec.ofChange morseKeepsSpec)

/-- ITS FALSE NEIGHBOUR: 'it returns false'. Refute it at one input. -/
def morseKeepsWrong : ChangeSpec := { name := "morseKeeps", fn := fun _ => fun
  | [d1, d2, d3] => { results := [.lit (.bool false)], args := [d1, d2, d3] }
  | _ => none }
def MorseKeepsWrongFalsely : Prop := morseKeepsRow.holds Tryz.pinned (OpenSpec.ofChange morseKeepsWrong)

/- THE SECOND FORM. 'bulk': how many values and letters a reading holds, each counted each time it is reached (what is shared counts as often as it is met; a slice's spare places count too). A statement '..UptoSaid' is the law's where the arguments, and the package variables that the reading takes, are together of bulk at most 1048576: NARROWER than '..Said'. Prove '..Said' where nothing that the law and all that it calls make is longer than what came in: it says more and counts as full. Else prove '..UptoSaid'. A law counts once. -/
mutual
def uptoBulk {H : Type} : DataW H → Nat
  | .lit (.string bytes) => bytes.length + 1
  | .lit _ => 1
  | .nil => 1
  | .ptr d => uptoBulk d + 1
  | .slice elems spare => uptoBulkAll elems + uptoBulkAll spare + 1
  | .agg parts => uptoBulkAll parts + 1
  | .iface _ d => uptoBulk d + 1
  | .map entries => uptoBulkEntries entries + 1
  | .held _ => 1
def uptoBulkAll {H : Type} : List (DataW H) → Nat
  | [] => 0
  | d :: r => uptoBulk d + uptoBulkAll r
def uptoBulkEntries {H : Type} : List (Lit × DataW H) → Nat
  | [] => 0
  | x :: r => uptoBulkEntry x + uptoBulkEntries r
def uptoBulkEntry {H : Type} : Lit × DataW H → Nat
  | (.string bytes, d) => bytes.length + uptoBulk d + 1
  | (_, d) => uptoBulk d + 1
 end
def uptoSmall : (H : Type) → List (DataW H) → Bool := fun _ ds => decide (uptoBulkAll ds ≤ 1048576)
def OpenSpec.upto (s : _root_.Go.ChangeSpec) : _root_.Go.OpenSpec := { _root_.Go.OpenSpec.ofChange s with cond := some uptoSmall }

/-- 'cocyclelaw07.ChainsVectors', WHERE WHAT IT READS IS OF BULK AT MOST 1048576: true; the input reads as it did. -/
def chainsVectorsUptoRow : OpenClaim := { program := "ytlhicnfeajejhaagreatdoor", sum := "d6f40d10b257698e0f8529fa7078ff25092bbb065eda77dbf4cf3460495a6c17", func := "cocycle/cocyclelaw07.ChainsVectors", spec := "chainsVectors", inPlace := ["internal/bytealg.IndexByteString", "internal/bytealg.IndexString"], unfollowed := true, recurses := true, named := ["unicode/utf8.first", "unicode/utf8.acceptRanges", "internal/bytealg.MaxLen"], apart := false, laid := [("unicode/utf8.acceptRanges", laid_unicode_utf8_acceptRanges), ("unicode/utf8.first", laid_unicode_utf8_first)], narrowed := true }
def ChainsVectorsUptoSaid : Prop := chainsVectorsUptoRow.holds Tryz.pinned (OpenSpec.upto chainsVectorsSpec)

/-- 'cocyclelaw07.ChainsLinear', WHERE WHAT IT READS IS OF BULK AT MOST 1048576: true; the input reads as it did. -/
def chainsLinearUptoRow : OpenClaim := { program := "ytlhicnfeajejhaagreatdoor", sum := "d6f40d10b257698e0f8529fa7078ff25092bbb065eda77dbf4cf3460495a6c17", func := "cocycle/cocyclelaw07.ChainsLinear", spec := "chainsLinear", inPlace := ["internal/bytealg.IndexByteString", "internal/bytealg.IndexString"], unfollowed := true, recurses := true, named := ["unicode/utf8.first", "unicode/utf8.acceptRanges", "internal/bytealg.MaxLen"], apart := false, laid := [("unicode/utf8.acceptRanges", laid_unicode_utf8_acceptRanges), ("unicode/utf8.first", laid_unicode_utf8_first)], narrowed := true }
def ChainsLinearUptoSaid : Prop := chainsLinearUptoRow.holds Tryz.pinned (OpenSpec.upto chainsLinearSpec)

/-- 'cocyclelaw13.MorseMatch', WHERE WHAT IT READS IS OF BULK AT MOST 1048576: true; the input reads as it did. -/
def morseMatchUptoRow : OpenClaim := { program := "ytlhicnfeajejhaagreatdoor", sum := "d6f40d10b257698e0f8529fa7078ff25092bbb065eda77dbf4cf3460495a6c17", func := "cocycle/cocyclelaw13.MorseMatch", spec := "morseMatch", inPlace := ["internal/bytealg.IndexByteString", "internal/bytealg.IndexString"], unfollowed := true, recurses := true, named := ["unicode/utf8.first", "unicode/utf8.acceptRanges", "internal/bytealg.MaxLen"], apart := false, laid := [("unicode/utf8.acceptRanges", laid_unicode_utf8_acceptRanges), ("unicode/utf8.first", laid_unicode_utf8_first)], narrowed := true }
def MorseMatchUptoSaid : Prop := morseMatchUptoRow.holds Tryz.pinned (OpenSpec.upto morseMatchSpec)

/-- 'cocyclelaw13.MorseClear', WHERE WHAT IT READS IS OF BULK AT MOST 1048576: true; the input reads as it did. -/
def morseClearUptoRow : OpenClaim := { program := "ytlhicnfeajejhaagreatdoor", sum := "d6f40d10b257698e0f8529fa7078ff25092bbb065eda77dbf4cf3460495a6c17", func := "cocycle/cocyclelaw13.MorseClear", spec := "morseClear", inPlace := ["internal/bytealg.IndexByteString", "internal/bytealg.IndexString"], unfollowed := true, recurses := true, named := ["unicode/utf8.first", "unicode/utf8.acceptRanges", "internal/bytealg.MaxLen"], apart := false, laid := [("unicode/utf8.acceptRanges", laid_unicode_utf8_acceptRanges), ("unicode/utf8.first", laid_unicode_utf8_first)], narrowed := true }
def MorseClearUptoSaid : Prop := morseClearUptoRow.holds Tryz.pinned (OpenSpec.upto morseClearSpec)

/-- 'cocyclelaw13.MorseChecks', WHERE WHAT IT READS IS OF BULK AT MOST 1048576: true; the input reads as it did. -/
def morseChecksUptoRow : OpenClaim := { program := "ytlhicnfeajejhaagreatdoor", sum := "d6f40d10b257698e0f8529fa7078ff25092bbb065eda77dbf4cf3460495a6c17", func := "cocycle/cocyclelaw13.MorseChecks", spec := "morseChecks", inPlace := ["internal/bytealg.IndexByteString", "internal/bytealg.IndexString"], unfollowed := true, recurses := true, named := ["unicode/utf8.first", "unicode/utf8.acceptRanges", "internal/bytealg.MaxLen"], apart := false, laid := [("unicode/utf8.acceptRanges", laid_unicode_utf8_acceptRanges), ("unicode/utf8.first", laid_unicode_utf8_first)], narrowed := true }
def MorseChecksUptoSaid : Prop := morseChecksUptoRow.holds Tryz.pinned (OpenSpec.upto morseChecksSpec)

/-- 'cocyclelaw13.MorseParts', WHERE WHAT IT READS IS OF BULK AT MOST 1048576: true; the input reads as it did. -/
def morsePartsUptoRow : OpenClaim := { program := "ytlhicnfeajejhaagreatdoor", sum := "d6f40d10b257698e0f8529fa7078ff25092bbb065eda77dbf4cf3460495a6c17", func := "cocycle/cocyclelaw13.MorseParts", spec := "morseParts", inPlace := ["internal/bytealg.IndexByteString", "internal/bytealg.IndexString"], unfollowed := true, recurses := true, named := ["unicode/utf8.first", "unicode/utf8.acceptRanges", "internal/bytealg.MaxLen"], apart := false, laid := [("unicode/utf8.acceptRanges", laid_unicode_utf8_acceptRanges), ("unicode/utf8.first", laid_unicode_utf8_first)], narrowed := true }
def MorsePartsUptoSaid : Prop := morsePartsUptoRow.holds Tryz.pinned (OpenSpec.upto morsePartsSpec)

/-- 'cocyclelaw13.MorseMaps', WHERE WHAT IT READS IS OF BULK AT MOST 1048576: true; the input reads as it did. -/
def morseMapsUptoRow : OpenClaim := { program := "ytlhicnfeajejhaagreatdoor", sum := "d6f40d10b257698e0f8529fa7078ff25092bbb065eda77dbf4cf3460495a6c17", func := "cocycle/cocyclelaw13.MorseMaps", spec := "morseMaps", inPlace := ["internal/bytealg.IndexByteString", "internal/bytealg.IndexString"], unfollowed := true, recurses := true, named := ["unicode/utf8.first", "unicode/utf8.acceptRanges", "internal/bytealg.MaxLen"], apart := false, laid := [("unicode/utf8.acceptRanges", laid_unicode_utf8_acceptRanges), ("unicode/utf8.first", laid_unicode_utf8_first)], narrowed := true }
def MorseMapsUptoSaid : Prop := morseMapsUptoRow.holds Tryz.pinned (OpenSpec.upto morseMapsSpec)

/-- 'cocyclelaw13.MorseGroups', WHERE WHAT IT READS IS OF BULK AT MOST 1048576: true; the input reads as it did. -/
def morseGroupsUptoRow : OpenClaim := { program := "ytlhicnfeajejhaagreatdoor", sum := "d6f40d10b257698e0f8529fa7078ff25092bbb065eda77dbf4cf3460495a6c17", func := "cocycle/cocyclelaw13.MorseGroups", spec := "morseGroups", inPlace := ["internal/bytealg.IndexByteString", "internal/bytealg.IndexString"], unfollowed := true, recurses := true, named := ["unicode/utf8.first", "unicode/utf8.acceptRanges", "internal/bytealg.MaxLen"], apart := false, laid := [("unicode/utf8.acceptRanges", laid_unicode_utf8_acceptRanges), ("unicode/utf8.first", laid_unicode_utf8_first)], narrowed := true }
def MorseGroupsUptoSaid : Prop := morseGroupsUptoRow.holds Tryz.pinned (OpenSpec.upto morseGroupsSpec)

/-- 'cocyclelaw13.MorseSpaces', WHERE WHAT IT READS IS OF BULK AT MOST 1048576: true; the input reads as it did. -/
def morseSpacesUptoRow : OpenClaim := { program := "ytlhicnfeajejhaagreatdoor", sum := "d6f40d10b257698e0f8529fa7078ff25092bbb065eda77dbf4cf3460495a6c17", func := "cocycle/cocyclelaw13.MorseSpaces", spec := "morseSpaces", inPlace := ["internal/bytealg.IndexByteString", "internal/bytealg.IndexString"], unfollowed := true, recurses := true, named := ["unicode/utf8.first", "unicode/utf8.acceptRanges", "internal/bytealg.MaxLen"], apart := false, laid := [("unicode/utf8.acceptRanges", laid_unicode_utf8_acceptRanges), ("unicode/utf8.first", laid_unicode_utf8_first)], narrowed := true }
def MorseSpacesUptoSaid : Prop := morseSpacesUptoRow.holds Tryz.pinned (OpenSpec.upto morseSpacesSpec)

/-- 'cocyclelaw13.MorseTwice', WHERE WHAT IT READS IS OF BULK AT MOST 1048576: true; the input reads as it did. -/
def morseTwiceUptoRow : OpenClaim := { program := "ytlhicnfeajejhaagreatdoor", sum := "d6f40d10b257698e0f8529fa7078ff25092bbb065eda77dbf4cf3460495a6c17", func := "cocycle/cocyclelaw13.MorseTwice", spec := "morseTwice", inPlace := ["internal/bytealg.IndexByteString", "internal/bytealg.IndexString"], unfollowed := true, recurses := true, named := ["unicode/utf8.first", "unicode/utf8.acceptRanges", "internal/bytealg.MaxLen"], apart := false, laid := [("unicode/utf8.acceptRanges", laid_unicode_utf8_acceptRanges), ("unicode/utf8.first", laid_unicode_utf8_first)], narrowed := true }
def MorseTwiceUptoSaid : Prop := morseTwiceUptoRow.holds Tryz.pinned (OpenSpec.upto morseTwiceSpec)

/-- 'cocyclelaw13.MorseEmpty', WHERE WHAT IT READS IS OF BULK AT MOST 1048576: true; the input reads as it did. -/
def morseEmptyUptoRow : OpenClaim := { program := "ytlhicnfeajejhaagreatdoor", sum := "d6f40d10b257698e0f8529fa7078ff25092bbb065eda77dbf4cf3460495a6c17", func := "cocycle/cocyclelaw13.MorseEmpty", spec := "morseEmpty", inPlace := ["internal/bytealg.IndexByteString", "internal/bytealg.IndexString"], unfollowed := true, recurses := true, named := ["unicode/utf8.first", "unicode/utf8.acceptRanges", "internal/bytealg.MaxLen"], apart := false, laid := [("unicode/utf8.acceptRanges", laid_unicode_utf8_acceptRanges), ("unicode/utf8.first", laid_unicode_utf8_first)], narrowed := true }
def MorseEmptyUptoSaid : Prop := morseEmptyUptoRow.holds Tryz.pinned (OpenSpec.upto morseEmptySpec)

/-- 'cocyclelaw13.MorseKeeps', WHERE WHAT IT READS IS OF BULK AT MOST 1048576: true; the input reads as it did. -/
def morseKeepsUptoRow : OpenClaim := { program := "ytlhicnfeajejhaagreatdoor", sum := "d6f40d10b257698e0f8529fa7078ff25092bbb065eda77dbf4cf3460495a6c17", func := "cocycle/cocyclelaw13.MorseKeeps", spec := "morseKeeps", inPlace := ["internal/bytealg.IndexByteString", "internal/bytealg.IndexString"], unfollowed := true, recurses := true, named := ["unicode/utf8.first", "unicode/utf8.acceptRanges", "internal/bytealg.MaxLen"], apart := false, laid := [("unicode/utf8.acceptRanges", laid_unicode_utf8_acceptRanges), ("unicode/utf8.first", laid_unicode_utf8_first)], narrowed := true }
def MorseKeepsUptoSaid : Prop := morseKeepsUptoRow.holds Tryz.pinned (OpenSpec.upto morseKeepsSpec)

end Rows
end Go.Proofs.YtlhicnfeajejhaaGreatDoor
