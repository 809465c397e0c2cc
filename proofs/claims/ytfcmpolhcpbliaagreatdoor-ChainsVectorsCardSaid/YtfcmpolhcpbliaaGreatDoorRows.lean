/-
  NARROWER THAN 'FOR EVERY INPUT', by the rows' own cells (each row's printed sentence says how): ChainsBounds: laid · ChainsRaw: laid · ChainsTwice: laid · ChainsVectors: laid · ChainsWide: laid · ChainsSums: laid · ChainsLinear: laid · ChainsKeeps: laid.
  DERIVED. THE GIVEN ROWS OF THIS SEAT. 8 by the template 'for every input the law returns true; each argument reads behind the call as it read before'; 0 by the template 'total and deterministic' (their statements: YtfcmpolhcpbliaaGreatDoorTotals.lean).
  GIVEN WITH THE SEED: the statements are not yours to turn. If you find one false, say at which input.
  Laid BY PROGRAM, IN A SANDBOX (cutbox-rows.mjs): the forced cells as the released guide's own fill.sh prints them over the translation b49546e8691acf18… (all of the seat's roots in one cut). By AI agents, Wed Nov 11 2026. No macro, syntax, notation, axiom, sorry.
-/
import Derived.Test.YtfcmpolhcpbliaaGreatDoorChecked
import GoSem.PinnedTables
import GoSem.Claim
import GoSem.ClaimJoined
import GoSem.ClaimMapViews
import Derived.JoinedTies
import Derived.KernelRfl
namespace Go.Proofs.YtfcmpolhcpbliaaGreatDoor
/- THE CELL 'sum', in the pinned program and in every row, IS THE sha256 OF THE DUMP (.gsa) THAT YtfcmpolhcpbliaaGreatDoorProg.lean LOADS. Nothing in Lean hashes anything: it is a label: what it is worth is what the hold of that sum in a sandbox is worth. -/
noncomputable def Tryz.pinned : Pinned := { name := "ytfcmpolhcpbliaagreatdoor", sum := "b49546e8691acf1844d19d4202a150931d9a9a8f43e77813dee16f95ab386501", checked := Tryz.checked }
namespace Rows
def none {H : Type} : Left H := { results := [], args := [] }

/- WHAT THE LISTED PACKAGE-LEVEL VARIABLES READ AS WHEN THE CALL BEGINS. Each datum BY PROGRAM (the guide's laid-datum.mjs) off the statement by which the dump's own 'gosem.cut.vars' lays the variable. In a bare row this is a premise. The card (YtfcmpolhcpbliaaGreatDoorCards.lean) ties it to the program's text. -/
def laid_unicode_utf8_acceptRanges {H : Type} : DataW H := .agg [.agg [.lit (.int .u8 128), .lit (.int .u8 191)], .agg [.lit (.int .u8 160), .lit (.int .u8 191)], .agg [.lit (.int .u8 128), .lit (.int .u8 159)], .agg [.lit (.int .u8 144), .lit (.int .u8 191)], .agg [.lit (.int .u8 128), .lit (.int .u8 143)], .agg [.lit (.int .u8 0), .lit (.int .u8 0)], .agg [.lit (.int .u8 0), .lit (.int .u8 0)], .agg [.lit (.int .u8 0), .lit (.int .u8 0)], .agg [.lit (.int .u8 0), .lit (.int .u8 0)], .agg [.lit (.int .u8 0), .lit (.int .u8 0)], .agg [.lit (.int .u8 0), .lit (.int .u8 0)], .agg [.lit (.int .u8 0), .lit (.int .u8 0)], .agg [.lit (.int .u8 0), .lit (.int .u8 0)], .agg [.lit (.int .u8 0), .lit (.int .u8 0)], .agg [.lit (.int .u8 0), .lit (.int .u8 0)], .agg [.lit (.int .u8 0), .lit (.int .u8 0)]]
/-- One of Go's own tables, pinned by name: the form's constant. -/
def laid_unicode_utf8_first : DataW Unit := Go.Pinned.utf8First

/-- 'cocyclelaw07.ChainsBounds': WHATEVER THE INPUT: true; the input reads as it did. -/
def chainsBoundsSpec : ChangeSpec := { name := "chainsBounds", fn := fun _ => fun
  | [d1, d2, d3] => { results := [.lit (.bool true)], args := [d1, d2, d3] }
  | _ => none }
def chainsBoundsRow : OpenClaim := { program := "ytfcmpolhcpbliaagreatdoor", sum := "b49546e8691acf1844d19d4202a150931d9a9a8f43e77813dee16f95ab386501", func := "cocycle/cocyclelaw07.ChainsBounds", spec := "chainsBounds", inPlace := ["internal/bytealg.IndexByteString", "internal/bytealg.IndexString"], unfollowed := true, recurses := true, named := ["unicode/utf8.first", "unicode/utf8.acceptRanges", "internal/bytealg.MaxLen"], apart := false, laid := [("unicode/utf8.acceptRanges", laid_unicode_utf8_acceptRanges), ("unicode/utf8.first", laid_unicode_utf8_first)] }
def ChainsBoundsSaid : Prop := chainsBoundsRow.holds Tryz.pinned (OpenSpec.ofChange chainsBoundsSpec)

/-- ITS FALSE NEIGHBOUR: 'it returns false'. Refute it at one input. -/
def chainsBoundsWrong : ChangeSpec := { name := "chainsBounds", fn := fun _ => fun
  | [d1, d2, d3] => { results := [.lit (.bool false)], args := [d1, d2, d3] }
  | _ => none }
def ChainsBoundsWrongFalsely : Prop := chainsBoundsRow.holds Tryz.pinned (OpenSpec.ofChange chainsBoundsWrong)

/-- 'cocyclelaw07.ChainsRaw': WHATEVER THE INPUT: true; the input reads as it did. -/
def chainsRawSpec : ChangeSpec := { name := "chainsRaw", fn := fun _ => fun
  | [d1, d2, d3] => { results := [.lit (.bool true)], args := [d1, d2, d3] }
  | _ => none }
def chainsRawRow : OpenClaim := { program := "ytfcmpolhcpbliaagreatdoor", sum := "b49546e8691acf1844d19d4202a150931d9a9a8f43e77813dee16f95ab386501", func := "cocycle/cocyclelaw07.ChainsRaw", spec := "chainsRaw", inPlace := ["internal/bytealg.IndexByteString", "internal/bytealg.IndexString"], unfollowed := true, recurses := true, named := ["unicode/utf8.first", "unicode/utf8.acceptRanges", "internal/bytealg.MaxLen"], apart := false, laid := [("unicode/utf8.acceptRanges", laid_unicode_utf8_acceptRanges), ("unicode/utf8.first", laid_unicode_utf8_first)] }
def ChainsRawSaid : Prop := chainsRawRow.holds Tryz.pinned (OpenSpec.ofChange chainsRawSpec)

/-- ITS FALSE NEIGHBOUR: 'it returns false'. Refute it at one input. -/
def chainsRawWrong : ChangeSpec := { name := "chainsRaw", fn := fun _ => fun
  | [d1, d2, d3] => { results := [.lit (.bool false)], args := [d1, d2, d3] }
  | _ => none }
def ChainsRawWrongFalsely : Prop := chainsRawRow.holds Tryz.pinned (OpenSpec.ofChange chainsRawWrong)

/-- 'cocyclelaw07.ChainsTwice': WHATEVER THE INPUT: true; the input reads as it did. -/
def chainsTwiceSpec : ChangeSpec := { name := "chainsTwice", fn := fun _ => fun
  | [d1, d2, d3] => { results := [.lit (.bool true)], args := [d1, d2, d3] }
  | _ => none }
def chainsTwiceRow : OpenClaim := { program := "ytfcmpolhcpbliaagreatdoor", sum := "b49546e8691acf1844d19d4202a150931d9a9a8f43e77813dee16f95ab386501", func := "cocycle/cocyclelaw07.ChainsTwice", spec := "chainsTwice", inPlace := ["internal/bytealg.IndexByteString", "internal/bytealg.IndexString"], unfollowed := true, recurses := true, named := ["unicode/utf8.first", "unicode/utf8.acceptRanges", "internal/bytealg.MaxLen"], apart := false, laid := [("unicode/utf8.acceptRanges", laid_unicode_utf8_acceptRanges), ("unicode/utf8.first", laid_unicode_utf8_first)] }
def ChainsTwiceSaid : Prop := chainsTwiceRow.holds Tryz.pinned (OpenSpec.ofChange chainsTwiceSpec)

/-- ITS FALSE NEIGHBOUR: 'it returns false'. Refute it at one input. -/
def chainsTwiceWrong : ChangeSpec := { name := "chainsTwice", fn := fun _ => fun
  | [d1, d2, d3] => { results := [.lit (.bool false)], args := [d1, d2, d3] }
  | _ => none }
def ChainsTwiceWrongFalsely : Prop := chainsTwiceRow.holds Tryz.pinned (OpenSpec.ofChange chainsTwiceWrong)

/-- 'cocyclelaw07.ChainsVectors': WHATEVER THE INPUT: true; the input reads as it did. -/
def chainsVectorsSpec : ChangeSpec := { name := "chainsVectors", fn := fun _ => fun
  | [d1, d2, d3] => { results := [.lit (.bool true)], args := [d1, d2, d3] }
  | _ => none }
def chainsVectorsRow : OpenClaim := { program := "ytfcmpolhcpbliaagreatdoor", sum := "b49546e8691acf1844d19d4202a150931d9a9a8f43e77813dee16f95ab386501", func := "cocycle/cocyclelaw07.ChainsVectors", spec := "chainsVectors", inPlace := ["internal/bytealg.IndexByteString", "internal/bytealg.IndexString"], unfollowed := true, recurses := true, named := ["unicode/utf8.first", "unicode/utf8.acceptRanges", "internal/bytealg.MaxLen"], apart := false, laid := [("unicode/utf8.acceptRanges", laid_unicode_utf8_acceptRanges), ("unicode/utf8.first", laid_unicode_utf8_first)] }
def ChainsVectorsSaid : Prop := chainsVectorsRow.holds Tryz.pinned (OpenSpec.ofChange chainsVectorsSpec)

/-- ITS FALSE NEIGHBOUR: 'it returns false'. Refute it at one input. -/
def chainsVectorsWrong : ChangeSpec := { name := "chainsVectors", fn := fun _ => fun
  | [d1, d2, d3] => { results := [.lit (.bool false)], args := [d1, d2, d3] }
  | _ => none }
def ChainsVectorsWrongFalsely : Prop := chainsVectorsRow.holds Tryz.pinned (OpenSpec.ofChange chainsVectorsWrong)

/-- 'cocyclelaw07.ChainsWide': WHATEVER THE INPUT: true; the input reads as it did. -/
def chainsWideSpec : ChangeSpec := { name := "chainsWide", fn := fun _ => fun
  | [d1, d2, d3] => { results := [.lit (.bool true)], args := [d1, d2, d3] }
  | _ => none }
def chainsWideRow : OpenClaim := { program := "ytfcmpolhcpbliaagreatdoor", sum := "b49546e8691acf1844d19d4202a150931d9a9a8f43e77813dee16f95ab386501", func := "cocycle/cocyclelaw07.ChainsWide", spec := "chainsWide", inPlace := ["internal/bytealg.IndexByteString", "internal/bytealg.IndexString"], unfollowed := true, recurses := true, named := ["unicode/utf8.first", "unicode/utf8.acceptRanges", "internal/bytealg.MaxLen"], apart := false, laid := [("unicode/utf8.acceptRanges", laid_unicode_utf8_acceptRanges), ("unicode/utf8.first", laid_unicode_utf8_first)] }
def ChainsWideSaid : Prop := chainsWideRow.holds Tryz.pinned (OpenSpec.ofChange chainsWideSpec)

/-- ITS FALSE NEIGHBOUR: 'it returns false'. Refute it at one input. -/
def chainsWideWrong : ChangeSpec := { name := "chainsWide", fn := fun _ => fun
  | [d1, d2, d3] => { results := [.lit (.bool false)], args := [d1, d2, d3] }
  | _ => none }
def ChainsWideWrongFalsely : Prop := chainsWideRow.holds Tryz.pinned (OpenSpec.ofChange chainsWideWrong)

/-- 'cocyclelaw07.ChainsSums': WHATEVER THE INPUT: true; the input reads as it did. -/
def chainsSumsSpec : ChangeSpec := { name := "chainsSums", fn := fun _ => fun
  | [d1, d2, d3] => { results := [.lit (.bool true)], args := [d1, d2, d3] }
  | _ => none }
def chainsSumsRow : OpenClaim := { program := "ytfcmpolhcpbliaagreatdoor", sum := "b49546e8691acf1844d19d4202a150931d9a9a8f43e77813dee16f95ab386501", func := "cocycle/cocyclelaw07.ChainsSums", spec := "chainsSums", inPlace := ["internal/bytealg.IndexByteString", "internal/bytealg.IndexString"], unfollowed := true, recurses := true, named := ["unicode/utf8.first", "unicode/utf8.acceptRanges", "internal/bytealg.MaxLen"], apart := false, laid := [("unicode/utf8.acceptRanges", laid_unicode_utf8_acceptRanges), ("unicode/utf8.first", laid_unicode_utf8_first)] }
def ChainsSumsSaid : Prop := chainsSumsRow.holds Tryz.pinned (OpenSpec.ofChange chainsSumsSpec)

/-- ITS FALSE NEIGHBOUR: 'it returns false'. Refute it at one input. -/
def chainsSumsWrong : ChangeSpec := { name := "chainsSums", fn := fun _ => fun
  | [d1, d2, d3] => { results := [.lit (.bool false)], args := [d1, d2, d3] }
  | _ => none }
def ChainsSumsWrongFalsely : Prop := chainsSumsRow.holds Tryz.pinned (OpenSpec.ofChange chainsSumsWrong)

/-- 'cocyclelaw07.ChainsLinear': WHATEVER THE INPUT: true; the input reads as it did. -/
def chainsLinearSpec : ChangeSpec := { name := "chainsLinear", fn := fun _ => fun
  | [d1, d2, d3] => { results := [.lit (.bool true)], args := [d1, d2, d3] }
  | _ => none }
def chainsLinearRow : OpenClaim := { program := "ytfcmpolhcpbliaagreatdoor", sum := "b49546e8691acf1844d19d4202a150931d9a9a8f43e77813dee16f95ab386501", func := "cocycle/cocyclelaw07.ChainsLinear", spec := "chainsLinear", inPlace := ["internal/bytealg.IndexByteString", "internal/bytealg.IndexString"], unfollowed := true, recurses := true, named := ["unicode/utf8.first", "unicode/utf8.acceptRanges", "internal/bytealg.MaxLen"], apart := false, laid := [("unicode/utf8.acceptRanges", laid_unicode_utf8_acceptRanges), ("unicode/utf8.first", laid_unicode_utf8_first)] }
def ChainsLinearSaid : Prop := chainsLinearRow.holds Tryz.pinned (OpenSpec.ofChange chainsLinearSpec)

/-- ITS FALSE NEIGHBOUR: 'it returns false'. Refute it at one input. -/
def chainsLinearWrong : ChangeSpec := { name := "chainsLinear", fn := fun _ => fun
  | [d1, d2, d3] => { results := [.lit (.bool false)], args := [d1, d2, d3] }
  | _ => none }
def ChainsLinearWrongFalsely : Prop := chainsLinearRow.holds Tryz.pinned (OpenSpec.ofChange chainsLinearWrong)

/-- 'cocyclelaw07.ChainsKeeps': WHATEVER THE INPUT: true; the input reads as it did. -/
def chainsKeepsSpec : ChangeSpec := { name := "chainsKeeps", fn := fun _ => fun
  | [d1, d2] => { results := [.lit (.bool true)], args := [d1, d2] }
  | _ => none }
def chainsKeepsRow : OpenClaim := { program := "ytfcmpolhcpbliaagreatdoor", sum := "b49546e8691acf1844d19d4202a150931d9a9a8f43e77813dee16f95ab386501", func := "cocycle/cocyclelaw07.ChainsKeeps", spec := "chainsKeeps", inPlace := ["internal/bytealg.IndexByteString", "internal/bytealg.IndexString"], unfollowed := true, recurses := true, named := ["unicode/utf8.first", "unicode/utf8.acceptRanges", "internal/bytealg.MaxLen"], apart := false, laid := [("unicode/utf8.acceptRanges", laid_unicode_utf8_acceptRanges), ("unicode/utf8.first", laid_unicode_utf8_first)] }
def ChainsKeepsSaid : Prop := chainsKeepsRow.holds Tryz.pinned (OpenSpec.ofChange chainsKeepsSpec)

/-- ITS FALSE NEIGHBOUR: 'it returns false'. Refute it at one input. -/
def chainsKeepsWrong : ChangeSpec := { name := "chainsKeeps", fn := fun _ => fun
  | [d1, d2] => { results := [.lit (.bool false)], args := [d1, d2] }
  | _ => none }
def ChainsKeepsWrongFalsely : Prop := chainsKeepsRow.holds Tryz.pinned (OpenSpec.ofChange chainsKeepsWrong)

/- THE SECOND FORM. 'bulk': how many values and letters a reading holds, each counted each time it is reached (what is shared counts as often as it is met; a slice's spare places count too). A statement '..UptoSaid' is the law's where the arguments, and the package variables that the reading takes, are together of bulk at most 1048576: NARROWER than '..Said'. Prove '..Said' where nothing that the law and all that it calls make is longer than what came in: it says more and counts as full. Else prove '..UptoSaid'. A law counts once. -/
mutual
def uptoBulk {H : Type} : DataW H → Nat
  | .lit (.string bytes) => bytes.length + 1
  | .lit _ => 1
  | .nil => 1
  | .ptr d => uptoBulk d + 1
  | .slice elems spare => uptoBulkAll elems + uptoBulkAll spare + 1
  | .agg parts => uptoBulkAll parts + 1
  | .iface _ d => uptoBulk d + 1
  | .map entries => uptoBulkEntries entries + 1
  | .held _ => 1
def uptoBulkAll {H : Type} : List (DataW H) → Nat
  | [] => 0
  | d :: r => uptoBulk d + uptoBulkAll r
def uptoBulkEntries {H : Type} : List (Lit × DataW H) → Nat
  | [] => 0
  | x :: r => uptoBulkEntry x + uptoBulkEntries r
def uptoBulkEntry {H : Type} : Lit × DataW H → Nat
  | (.string bytes, d) => bytes.length + uptoBulk d + 1
  | (_, d) => uptoBulk d + 1
 end
def uptoSmall : (H : Type) → List (DataW H) → Bool := fun _ ds => decide (uptoBulkAll ds ≤ 1048576)
def OpenSpec.upto (s : _root_.Go.ChangeSpec) : _root_.Go.OpenSpec := { _root_.Go.OpenSpec.ofChange s with cond := some uptoSmall }

/-- 'cocyclelaw07.ChainsBounds', WHERE WHAT IT READS IS OF BULK AT MOST 1048576: true; the input reads as it did. -/
def chainsBoundsUptoRow : OpenClaim := { program := "ytfcmpolhcpbliaagreatdoor", sum := "b49546e8691acf1844d19d4202a150931d9a9a8f43e77813dee16f95ab386501", func := "cocycle/cocyclelaw07.ChainsBounds", spec := "chainsBounds", inPlace := ["internal/bytealg.IndexByteString", "internal/bytealg.IndexString"], unfollowed := true, recurses := true, named := ["unicode/utf8.first", "unicode/utf8.acceptRanges", "internal/bytealg.MaxLen"], apart := false, laid := [("unicode/utf8.acceptRanges", laid_unicode_utf8_acceptRanges), ("unicode/utf8.first", laid_unicode_utf8_first)], narrowed := true }
def ChainsBoundsUptoSaid : Prop := chainsBoundsUptoRow.holds Tryz.pinned (OpenSpec.upto chainsBoundsSpec)

/-- 'cocyclelaw07.ChainsRaw', WHERE WHAT IT READS IS OF BULK AT MOST 1048576: true; the input reads as it did. -/
def chainsRawUptoRow : OpenClaim := { program := "ytfcmpolhcpbliaagreatdoor", sum := "b49546e8691acf1844d19d4202a150931d9a9a8f43e77813dee16f95ab386501", func := "cocycle/cocyclelaw07.ChainsRaw", spec := "chainsRaw", inPlace := ["internal/bytealg.IndexByteString", "internal/bytealg.IndexString"], unfollowed := true, recurses := true, named := ["unicode/utf8.first", "unicode/utf8.acceptRanges", "internal/bytealg.MaxLen"], apart := false, laid := [("unicode/utf8.acceptRanges", laid_unicode_utf8_acceptRanges), ("unicode/utf8.first", laid_unicode_utf8_first)], narrowed := true }
def ChainsRawUptoSaid : Prop := chainsRawUptoRow.holds Tryz.pinned (OpenSpec.upto chainsRawSpec)

/-- 'cocyclelaw07.ChainsTwice', WHERE WHAT IT READS IS OF BULK AT MOST 1048576: true; the input reads as it did. -/
def chainsTwiceUptoRow : OpenClaim := { program := "ytfcmpolhcpbliaagreatdoor", sum := "b49546e8691acf1844d19d4202a150931d9a9a8f43e77813dee16f95ab386501", func := "cocycle/cocyclelaw07.ChainsTwice", spec := "chainsTwice", inPlace := ["internal/bytealg.IndexByteString", "internal/bytealg.IndexString"], unfollowed := true, recurses := true, named := ["unicode/utf8.first", "unicode/utf8.acceptRanges", "internal/bytealg.MaxLen"], apart := false, laid := [("unicode/utf8.acceptRanges", laid_unicode_utf8_acceptRanges), ("unicode/utf8.first", laid_unicode_utf8_first)], narrowed := true }
def ChainsTwiceUptoSaid : Prop := chainsTwiceUptoRow.holds Tryz.pinned (OpenSpec.upto chainsTwiceSpec)

/-- 'cocyclelaw07.ChainsVectors', WHERE WHAT IT READS IS OF BULK AT MOST 1048576: true; the input reads as it did. -/
def chainsVectorsUptoRow : OpenClaim := { program := "ytfcmpolhcpbliaagreatdoor", sum := "b49546e8691acf1844d19d4202a150931d9a9a8f43e77813dee16f95ab386501", func := "cocycle/cocyclelaw07.ChainsVectors", spec := "chainsVectors", inPlace := ["internal/bytealg.IndexByteString", "internal/bytealg.IndexString"], unfollowed := true, recurses := true, named := ["unicode/utf8.first", "unicode/utf8.acceptRanges", "internal/bytealg.MaxLen"], apart := false, laid := [("unicode/utf8.acceptRanges", laid_unicode_utf8_acceptRanges), ("unicode/utf8.first", laid_unicode_utf8_first)], narrowed := true }
def ChainsVectorsUptoSaid : Prop := chainsVectorsUptoRow.holds Tryz.pinned (OpenSpec.upto chainsVectorsSpec)

/-- 'cocyclelaw07.ChainsWide', WHERE WHAT IT READS IS OF BULK AT MOST 1048576: true; the input reads as it did. -/
def chainsWideUptoRow : OpenClaim := { program := "ytfcmpolhcpbliaagreatdoor", sum := "b49546e8691acf1844d19d4202a150931d9a9a8f43e77813dee16f95ab386501", func := "cocycle/cocyclelaw07.ChainsWide", spec := "chainsWide", inPlace := ["internal/bytealg.IndexByteString", "internal/bytealg.IndexString"], unfollowed := true, recurses := true, named := ["unicode/utf8.first", "unicode/utf8.acceptRanges", "internal/bytealg.MaxLen"], apart := false, laid := [("unicode/utf8.acceptRanges", laid_unicode_utf8_acceptRanges), ("unicode/utf8.first", laid_unicode_utf8_first)], narrowed := true }
def ChainsWideUptoSaid : Prop := chainsWideUptoRow.holds Tryz.pinned (OpenSpec.upto chainsWideSpec)

/-- 'cocyclelaw07.ChainsSums', WHERE WHAT IT READS IS OF BULK AT MOST 1048576: true; the input reads as it did. -/
def chainsSumsUptoRow : OpenClaim := { program := "ytfcmpolhcpbliaagreatdoor", sum := "b49546e8691acf1844d19d4202a150931d9a9a8f43e77813dee16f95ab386501", func := "cocycle/cocyclelaw07.ChainsSums", spec := "chainsSums", inPlace := ["internal/bytealg.IndexByteString", "internal/bytealg.IndexString"], unfollowed := true, recurses := true, named := ["unicode/utf8.first", "unicode/utf8.acceptRanges", "internal/bytealg.MaxLen"], apart := false, laid := [("unicode/utf8.acceptRanges", laid_unicode_utf8_acceptRanges), ("unicode/utf8.first", laid_unicode_utf8_first)], narrowed := true }
def ChainsSumsUptoSaid : Prop := chainsSumsUptoRow.holds Tryz.pinned (OpenSpec.upto chainsSumsSpec)

/-- 'cocyclelaw07.ChainsLinear', WHERE WHAT IT READS IS OF BULK AT MOST 1048576: true; the input reads as it did. -/
def chainsLinearUptoRow : OpenClaim := { program := "ytfcmpolhcpbliaagreatdoor", sum := "b49546e8691acf1844d19d4202a150931d9a9a8f43e77813dee16f95ab386501", func := "cocycle/cocyclelaw07.ChainsLinear", spec := "chainsLinear", inPlace := ["internal/bytealg.IndexByteString", "internal/bytealg.IndexString"], unfollowed := true, recurses := true, named := ["unicode/utf8.first", "unicode/utf8.acceptRanges", "internal/bytealg.MaxLen"], apart := false, laid := [("unicode/utf8.acceptRanges", laid_unicode_utf8_acceptRanges), ("unicode/utf8.first", laid_unicode_utf8_first)], narrowed := true }
def ChainsLinearUptoSaid : Prop := chainsLinearUptoRow.holds Tryz.pinned (OpenSpec.upto chainsLinearSpec)

/-- 'cocyclelaw07.ChainsKeeps', WHERE WHAT IT READS IS OF BULK AT MOST 1048576: true; the input reads as it did. -/
def chainsKeepsUptoRow : OpenClaim := { program := "ytfcmpolhcpbliaagreatdoor", sum := "b49546e8691acf1844d19d4202a150931d9a9a8f43e77813dee16f95ab386501", func := "cocycle/cocyclelaw07.ChainsKeeps", spec := "chainsKeeps", inPlace := ["internal/bytealg.IndexByteString", "internal/bytealg.IndexString"], unfollowed := true, recurses := true, named := ["unicode/utf8.first", "unicode/utf8.acceptRanges", "internal/bytealg.MaxLen"], apart := false, laid := [("unicode/utf8.acceptRanges", laid_unicode_utf8_acceptRanges), ("unicode/utf8.first", laid_unicode_utf8_first)], narrowed := true }
def ChainsKeepsUptoSaid : Prop := chainsKeepsUptoRow.holds Tryz.pinned (OpenSpec.upto chainsKeepsSpec)

end Rows
end Go.Proofs.YtfcmpolhcpbliaaGreatDoor
