/-
  NARROWER THAN 'FOR EVERY INPUT', by the rows' own cells (each row's printed sentence says how): FnTop: laid · FnRedefine: laid · FnEveryReplay: laid · FnExactPress: laid · FnExactUndoAll: laid · FnUndo: laid · FnExactReplay: laid · FnPress: laid · FnExactRedefine: laid.
  DERIVED. THE GIVEN ROWS OF THIS SEAT. 9 by the template 'for every input the law returns true; each argument reads behind the call as it read before'; 0 by the template 'total and deterministic' (their statements: YtpkahblajgaemaaGreatDoorTotals.lean).
  GIVEN WITH THE SEED: the statements are not yours to turn. If you find one false, say at which input.
  Laid BY PROGRAM, IN A SANDBOX (cutbox-rows.mjs): the forced cells as the released guide's own fill.sh prints them over the translation 422b731918402baf… (all of the seat's roots in one cut). By AI agents, Wed Nov 11 2026. No macro, syntax, notation, axiom, sorry.
-/
import Derived.Test.YtpkahblajgaemaaGreatDoorChecked
import GoSem.PinnedTables
import GoSem.Claim
import GoSem.ClaimJoined
import GoSem.ClaimMapViews
import Derived.JoinedTies
import Derived.KernelRfl
namespace Go.Proofs.YtpkahblajgaemaaGreatDoor
/- THE CELL 'sum', in the pinned program and in every row, IS THE sha256 OF THE DUMP (.gsa) THAT YtpkahblajgaemaaGreatDoorProg.lean LOADS. Nothing in Lean hashes anything: it is a label: what it is worth is what the hold of that sum in a sandbox is worth. -/
noncomputable def Tryz.pinned : Pinned := { name := "ytpkahblajgaemaagreatdoor", sum := "422b731918402baf9657b133066e5a7e4a9cffdd3ba25488642f2b6e0379941b", checked := Tryz.checked }
namespace Rows
def none {H : Type} : Left H := { results := [], args := [] }

/- WHAT THE LISTED PACKAGE-LEVEL VARIABLES READ AS WHEN THE CALL BEGINS. Each datum BY PROGRAM (the guide's laid-datum.mjs) off the statement by which the dump's own 'gosem.cut.vars' lays the variable. In a bare row this is a premise. The card (YtpkahblajgaemaaGreatDoorCards.lean) ties it to the program's text. -/
def laid_unicode_utf8_acceptRanges {H : Type} : DataW H := .agg [.agg [.lit (.int .u8 128), .lit (.int .u8 191)], .agg [.lit (.int .u8 160), .lit (.int .u8 191)], .agg [.lit (.int .u8 128), .lit (.int .u8 159)], .agg [.lit (.int .u8 144), .lit (.int .u8 191)], .agg [.lit (.int .u8 128), .lit (.int .u8 143)], .agg [.lit (.int .u8 0), .lit (.int .u8 0)], .agg [.lit (.int .u8 0), .lit (.int .u8 0)], .agg [.lit (.int .u8 0), .lit (.int .u8 0)], .agg [.lit (.int .u8 0), .lit (.int .u8 0)], .agg [.lit (.int .u8 0), .lit (.int .u8 0)], .agg [.lit (.int .u8 0), .lit (.int .u8 0)], .agg [.lit (.int .u8 0), .lit (.int .u8 0)], .agg [.lit (.int .u8 0), .lit (.int .u8 0)], .agg [.lit (.int .u8 0), .lit (.int .u8 0)], .agg [.lit (.int .u8 0), .lit (.int .u8 0)], .agg [.lit (.int .u8 0), .lit (.int .u8 0)]]
/-- One of Go's own tables, pinned by name: the form's constant. -/
def laid_unicode_utf8_first : DataW Unit := Go.Pinned.utf8First

/-- 'laws.FnTop': WHATEVER THE INPUT: true; the input reads as it did. -/
def fnTopSpec : ChangeSpec := { name := "fnTop", fn := fun _ => fun
  | [d] => { results := [.lit (.bool true)], args := [d] }
  | _ => none }
def fnTopRow : OpenClaim := { program := "ytpkahblajgaemaagreatdoor", sum := "422b731918402baf9657b133066e5a7e4a9cffdd3ba25488642f2b6e0379941b", func := "loop.example/g00882/laws.FnTop", spec := "fnTop", inPlace := ["internal/bytealg.CountString", "internal/bytealg.IndexByteString", "internal/bytealg.IndexString", "internal/abi.NoEscape", "internal/bytealg.MakeNoZero"], unfollowed := true, recurses := true, named := ["unicode/utf8.first", "unicode/utf8.acceptRanges", "internal/bytealg.MaxLen"], apart := false, laid := [("unicode/utf8.acceptRanges", laid_unicode_utf8_acceptRanges), ("unicode/utf8.first", laid_unicode_utf8_first)] }
def FnTopSaid : Prop := fnTopRow.holds Tryz.pinned (OpenSpec.ofChange fnTopSpec)

/-- ITS FALSE NEIGHBOUR: 'it returns false'. Refute it at one input. -/
def fnTopWrong : ChangeSpec := { name := "fnTop", fn := fun _ => fun
  | [d] => { results := [.lit (.bool false)], args := [d] }
  | _ => none }
def FnTopWrongFalsely : Prop := fnTopRow.holds Tryz.pinned (OpenSpec.ofChange fnTopWrong)

/-- 'laws.FnRedefine': WHATEVER THE INPUT: true; the input reads as it did. -/
def fnRedefineSpec : ChangeSpec := { name := "fnRedefine", fn := fun _ => fun
  | [d] => { results := [.lit (.bool true)], args := [d] }
  | _ => none }
def fnRedefineRow : OpenClaim := { program := "ytpkahblajgaemaagreatdoor", sum := "422b731918402baf9657b133066e5a7e4a9cffdd3ba25488642f2b6e0379941b", func := "loop.example/g00882/laws.FnRedefine", spec := "fnRedefine", inPlace := ["internal/bytealg.CountString", "internal/bytealg.IndexByteString", "internal/bytealg.IndexString", "internal/abi.NoEscape", "internal/bytealg.MakeNoZero"], unfollowed := true, recurses := true, named := ["unicode/utf8.first", "unicode/utf8.acceptRanges", "internal/bytealg.MaxLen"], apart := false, laid := [("unicode/utf8.acceptRanges", laid_unicode_utf8_acceptRanges), ("unicode/utf8.first", laid_unicode_utf8_first)] }
def FnRedefineSaid : Prop := fnRedefineRow.holds Tryz.pinned (OpenSpec.ofChange fnRedefineSpec)

/-- ITS FALSE NEIGHBOUR: 'it returns false'. Refute it at one input. -/
def fnRedefineWrong : ChangeSpec := { name := "fnRedefine", fn := fun _ => fun
  | [d] => { results := [.lit (.bool false)], args := [d] }
  | _ => none }
def FnRedefineWrongFalsely : Prop := fnRedefineRow.holds Tryz.pinned (OpenSpec.ofChange fnRedefineWrong)

/-- 'laws.FnEveryReplay': WHATEVER THE INPUT: true; the input reads as it did. -/
def fnEveryReplaySpec : ChangeSpec := { name := "fnEveryReplay", fn := fun _ => fun
  | [d1, d2] => { results := [.lit (.bool true)], args := [d1, d2] }
  | _ => none }
def fnEveryReplayRow : OpenClaim := { program := "ytpkahblajgaemaagreatdoor", sum := "422b731918402baf9657b133066e5a7e4a9cffdd3ba25488642f2b6e0379941b", func := "loop.example/g00882/laws.FnEveryReplay", spec := "fnEveryReplay", inPlace := ["internal/bytealg.CountString", "internal/bytealg.IndexByteString", "internal/bytealg.IndexString", "internal/abi.NoEscape", "internal/bytealg.MakeNoZero"], unfollowed := true, recurses := true, named := ["unicode/utf8.first", "unicode/utf8.acceptRanges", "internal/bytealg.MaxLen"], apart := false, laid := [("unicode/utf8.acceptRanges", laid_unicode_utf8_acceptRanges), ("unicode/utf8.first", laid_unicode_utf8_first)] }
def FnEveryReplaySaid : Prop := fnEveryReplayRow.holds Tryz.pinned (OpenSpec.ofChange fnEveryReplaySpec)

/-- ITS FALSE NEIGHBOUR: 'it returns false'. Refute it at one input. -/
def fnEveryReplayWrong : ChangeSpec := { name := "fnEveryReplay", fn := fun _ => fun
  | [d1, d2] => { results := [.lit (.bool false)], args := [d1, d2] }
  | _ => none }
def FnEveryReplayWrongFalsely : Prop := fnEveryReplayRow.holds Tryz.pinned (OpenSpec.ofChange fnEveryReplayWrong)

/-- 'laws.FnExactPress': WHATEVER THE INPUT: true; the input reads as it did. -/
def fnExactPressSpec : ChangeSpec := { name := "fnExactPress", fn := fun _ => fun
  | [d1, d2, d3] => { results := [.lit (.bool true)], args := [d1, d2, d3] }
  | _ => none }
def fnExactPressRow : OpenClaim := { program := "ytpkahblajgaemaagreatdoor", sum := "422b731918402baf9657b133066e5a7e4a9cffdd3ba25488642f2b6e0379941b", func := "loop.example/g00882/laws.FnExactPress", spec := "fnExactPress", inPlace := ["internal/bytealg.CountString", "internal/bytealg.IndexByteString", "internal/bytealg.IndexString", "internal/abi.NoEscape", "internal/bytealg.MakeNoZero"], unfollowed := true, recurses := true, named := ["unicode/utf8.first", "unicode/utf8.acceptRanges", "internal/bytealg.MaxLen"], apart := false, laid := [("unicode/utf8.acceptRanges", laid_unicode_utf8_acceptRanges), ("unicode/utf8.first", laid_unicode_utf8_first)] }
def FnExactPressSaid : Prop := fnExactPressRow.holds Tryz.pinned (OpenSpec.ofChange fnExactPressSpec)

/-- ITS FALSE NEIGHBOUR: 'it returns false'. Refute it at one input. -/
def fnExactPressWrong : ChangeSpec := { name := "fnExactPress", fn := fun _ => fun
  | [d1, d2, d3] => { results := [.lit (.bool false)], args := [d1, d2, d3] }
  | _ => none }
def FnExactPressWrongFalsely : Prop := fnExactPressRow.holds Tryz.pinned (OpenSpec.ofChange fnExactPressWrong)

/-- 'laws.FnExactUndoAll': WHATEVER THE INPUT: true; the input reads as it did. -/
def fnExactUndoAllSpec : ChangeSpec := { name := "fnExactUndoAll", fn := fun _ => fun
  | [d1, d2] => { results := [.lit (.bool true)], args := [d1, d2] }
  | _ => none }
def fnExactUndoAllRow : OpenClaim := { program := "ytpkahblajgaemaagreatdoor", sum := "422b731918402baf9657b133066e5a7e4a9cffdd3ba25488642f2b6e0379941b", func := "loop.example/g00882/laws.FnExactUndoAll", spec := "fnExactUndoAll", inPlace := ["internal/bytealg.CountString", "internal/bytealg.IndexByteString", "internal/bytealg.IndexString", "internal/abi.NoEscape", "internal/bytealg.MakeNoZero"], unfollowed := true, recurses := true, named := ["unicode/utf8.first", "unicode/utf8.acceptRanges", "internal/bytealg.MaxLen"], apart := false, laid := [("unicode/utf8.acceptRanges", laid_unicode_utf8_acceptRanges), ("unicode/utf8.first", laid_unicode_utf8_first)] }
def FnExactUndoAllSaid : Prop := fnExactUndoAllRow.holds Tryz.pinned (OpenSpec.ofChange fnExactUndoAllSpec)

/-- ITS FALSE NEIGHBOUR: 'it returns false'. Refute it at one input. -/
def fnExactUndoAllWrong : ChangeSpec := { name := "fnExactUndoAll", fn := fun _ => fun
  | [d1, d2] => { results := [.lit (.bool false)], args := [d1, d2] }
  | _ => none }
def FnExactUndoAllWrongFalsely : Prop := fnExactUndoAllRow.holds Tryz.pinned (OpenSpec.ofChange fnExactUndoAllWrong)

/-- 'laws.FnUndo': WHATEVER THE INPUT: true; the input reads as it did. -/
def fnUndoSpec : ChangeSpec := { name := "fnUndo", fn := fun _ => fun
  | [d] => { results := [.lit (.bool true)], args := [d] }
  | _ => none }
def fnUndoRow : OpenClaim := { program := "ytpkahblajgaemaagreatdoor", sum := "422b731918402baf9657b133066e5a7e4a9cffdd3ba25488642f2b6e0379941b", func := "loop.example/g00882/laws.FnUndo", spec := "fnUndo", inPlace := ["internal/bytealg.CountString", "internal/bytealg.IndexByteString", "internal/bytealg.IndexString", "internal/abi.NoEscape", "internal/bytealg.MakeNoZero"], unfollowed := true, recurses := true, named := ["unicode/utf8.first", "unicode/utf8.acceptRanges", "internal/bytealg.MaxLen"], apart := false, laid := [("unicode/utf8.acceptRanges", laid_unicode_utf8_acceptRanges), ("unicode/utf8.first", laid_unicode_utf8_first)] }
def FnUndoSaid : Prop := fnUndoRow.holds Tryz.pinned (OpenSpec.ofChange fnUndoSpec)

/-- ITS FALSE NEIGHBOUR: 'it returns false'. Refute it at one input. -/
def fnUndoWrong : ChangeSpec := { name := "fnUndo", fn := fun _ => fun
  | [d] => { results := [.lit (.bool false)], args := [d] }
  | _ => none }
def FnUndoWrongFalsely : Prop := fnUndoRow.holds Tryz.pinned (OpenSpec.ofChange fnUndoWrong)

/-- 'laws.FnExactReplay': WHATEVER THE INPUT: true; the input reads as it did. -/
def fnExactReplaySpec : ChangeSpec := { name := "fnExactReplay", fn := fun _ => fun
  | [d1, d2] => { results := [.lit (.bool true)], args := [d1, d2] }
  | _ => none }
def fnExactReplayRow : OpenClaim := { program := "ytpkahblajgaemaagreatdoor", sum := "422b731918402baf9657b133066e5a7e4a9cffdd3ba25488642f2b6e0379941b", func := "loop.example/g00882/laws.FnExactReplay", spec := "fnExactReplay", inPlace := ["internal/bytealg.CountString", "internal/bytealg.IndexByteString", "internal/bytealg.IndexString", "internal/abi.NoEscape", "internal/bytealg.MakeNoZero"], unfollowed := true, recurses := true, named := ["unicode/utf8.first", "unicode/utf8.acceptRanges", "internal/bytealg.MaxLen"], apart := false, laid := [("unicode/utf8.acceptRanges", laid_unicode_utf8_acceptRanges), ("unicode/utf8.first", laid_unicode_utf8_first)] }
def FnExactReplaySaid : Prop := fnExactReplayRow.holds Tryz.pinned (OpenSpec.ofChange fnExactReplaySpec)

/-- ITS FALSE NEIGHBOUR: 'it returns false'. Refute it at one input. -/
def fnExactReplayWrong : ChangeSpec := { name := "fnExactReplay", fn := fun _ => fun
  | [d1, d2] => { results := [.lit (.bool false)], args := [d1, d2] }
  | _ => none }
def FnExactReplayWrongFalsely : Prop := fnExactReplayRow.holds Tryz.pinned (OpenSpec.ofChange fnExactReplayWrong)

/-- 'laws.FnPress': WHATEVER THE INPUT: true; the input reads as it did. -/
def fnPressSpec : ChangeSpec := { name := "fnPress", fn := fun _ => fun
  | [d] => { results := [.lit (.bool true)], args := [d] }
  | _ => none }
def fnPressRow : OpenClaim := { program := "ytpkahblajgaemaagreatdoor", sum := "422b731918402baf9657b133066e5a7e4a9cffdd3ba25488642f2b6e0379941b", func := "loop.example/g00882/laws.FnPress", spec := "fnPress", inPlace := ["internal/bytealg.CountString", "internal/bytealg.IndexByteString", "internal/bytealg.IndexString", "internal/abi.NoEscape", "internal/bytealg.MakeNoZero"], unfollowed := true, recurses := true, named := ["unicode/utf8.first", "unicode/utf8.acceptRanges", "internal/bytealg.MaxLen"], apart := false, laid := [("unicode/utf8.acceptRanges", laid_unicode_utf8_acceptRanges), ("unicode/utf8.first", laid_unicode_utf8_first)] }
def FnPressSaid : Prop := fnPressRow.holds Tryz.pinned (OpenSpec.ofChange fnPressSpec)

/-- ITS FALSE NEIGHBOUR: 'it returns false'. Refute it at one input. -/
def fnPressWrong : ChangeSpec := { name := "fnPress", fn := fun _ => fun
  | [d] => { results := [.lit (.bool false)], args := [d] }
  | _ => none }
def FnPressWrongFalsely : Prop := fnPressRow.holds Tryz.pinned (OpenSpec.ofChange fnPressWrong)

/-- 'laws.FnExactRedefine': WHATEVER THE INPUT: true; the input reads as it did. -/
def fnExactRedefineSpec : ChangeSpec := { name := "fnExactRedefine", fn := fun _ => fun
  | [d1, d2, d3] => { results := [.lit (.bool true)], args := [d1, d2, d3] }
  | _ => none }
def fnExactRedefineRow : OpenClaim := { program := "ytpkahblajgaemaagreatdoor", sum := "422b731918402baf9657b133066e5a7e4a9cffdd3ba25488642f2b6e0379941b", func := "loop.example/g00882/laws.FnExactRedefine", spec := "fnExactRedefine", inPlace := ["internal/bytealg.CountString", "internal/bytealg.IndexByteString", "internal/bytealg.IndexString", "internal/abi.NoEscape", "internal/bytealg.MakeNoZero"], unfollowed := true, recurses := true, named := ["unicode/utf8.first", "unicode/utf8.acceptRanges", "internal/bytealg.MaxLen"], apart := false, laid := [("unicode/utf8.acceptRanges", laid_unicode_utf8_acceptRanges), ("unicode/utf8.first", laid_unicode_utf8_first)] }
def FnExactRedefineSaid : Prop := fnExactRedefineRow.holds Tryz.pinned (OpenSpec.ofChange fnExactRedefineSpec)

/-- ITS FALSE NEIGHBOUR: 'it returns false'. Refute it at one input. -/
def fnExactRedefineWrong : ChangeSpec := { name := "fnExactRedefine", fn := fun _ => fun
  | [d1, d2, d3] => { results := [.lit (.bool false)], args := [d1, d2, d3] }
  | _ => none }
def FnExactRedefineWrongFalsely : Prop := fnExactRedefineRow.holds Tryz.pinned (OpenSpec.ofChange fnExactRedefineWrong)

/- THE SECOND FORM. 'bulk': how many values and letters a reading holds, each counted each time it is reached (what is shared counts as often as it is met; a slice's spare places count too). A statement '..UptoSaid' is the law's where the arguments, and the package variables that the reading takes, are together of bulk at most 1048576: NARROWER than '..Said'. Prove '..Said' where nothing that the law and all that it calls make is longer than what came in: it says more and counts as full. Else prove '..UptoSaid'. A law counts once. -/
mutual
def uptoBulk {H : Type} : DataW H → Nat
  | .lit (.string bytes) => bytes.length + 1
  | .lit _ => 1
  | .nil => 1
  | .ptr d => uptoBulk d + 1
  | .slice elems spare => uptoBulkAll elems + uptoBulkAll spare + 1
  | .agg parts => uptoBulkAll parts + 1
  | .iface _ d => uptoBulk d + 1
  | .map entries => uptoBulkEntries entries + 1
  | .held _ => 1
def uptoBulkAll {H : Type} : List (DataW H) → Nat
  | [] => 0
  | d :: r => uptoBulk d + uptoBulkAll r
def uptoBulkEntries {H : Type} : List (Lit × DataW H) → Nat
  | [] => 0
  | x :: r => uptoBulkEntry x + uptoBulkEntries r
def uptoBulkEntry {H : Type} : Lit × DataW H → Nat
  | (.string bytes, d) => bytes.length + uptoBulk d + 1
  | (_, d) => uptoBulk d + 1
 end
def uptoSmall : (H : Type) → List (DataW H) → Bool := fun _ ds => decide (uptoBulkAll ds ≤ 1048576)
def OpenSpec.upto (s : _root_.Go.ChangeSpec) : _root_.Go.OpenSpec := { _root_.Go.OpenSpec.ofChange s with cond := some uptoSmall }

/-- 'laws.FnTop', WHERE WHAT IT READS IS OF BULK AT MOST 1048576: true; the input reads as it did. -/
def fnTopUptoRow : OpenClaim := { program := "ytpkahblajgaemaagreatdoor", sum := "422b731918402baf9657b133066e5a7e4a9cffdd3ba25488642f2b6e0379941b", func := "loop.example/g00882/laws.FnTop", spec := "fnTop", inPlace := ["internal/bytealg.CountString", "internal/bytealg.IndexByteString", "internal/bytealg.IndexString", "internal/abi.NoEscape", "internal/bytealg.MakeNoZero"], unfollowed := true, recurses := true, named := ["unicode/utf8.first", "unicode/utf8.acceptRanges", "internal/bytealg.MaxLen"], apart := false, laid := [("unicode/utf8.acceptRanges", laid_unicode_utf8_acceptRanges), ("unicode/utf8.first", laid_unicode_utf8_first)], narrowed := true }
def FnTopUptoSaid : Prop := fnTopUptoRow.holds Tryz.pinned (OpenSpec.upto fnTopSpec)

/-- 'laws.FnRedefine', WHERE WHAT IT READS IS OF BULK AT MOST 1048576: true; the input reads as it did. -/
def fnRedefineUptoRow : OpenClaim := { program := "ytpkahblajgaemaagreatdoor", sum := "422b731918402baf9657b133066e5a7e4a9cffdd3ba25488642f2b6e0379941b", func := "loop.example/g00882/laws.FnRedefine", spec := "fnRedefine", inPlace := ["internal/bytealg.CountString", "internal/bytealg.IndexByteString", "internal/bytealg.IndexString", "internal/abi.NoEscape", "internal/bytealg.MakeNoZero"], unfollowed := true, recurses := true, named := ["unicode/utf8.first", "unicode/utf8.acceptRanges", "internal/bytealg.MaxLen"], apart := false, laid := [("unicode/utf8.acceptRanges", laid_unicode_utf8_acceptRanges), ("unicode/utf8.first", laid_unicode_utf8_first)], narrowed := true }
def FnRedefineUptoSaid : Prop := fnRedefineUptoRow.holds Tryz.pinned (OpenSpec.upto fnRedefineSpec)

/-- 'laws.FnEveryReplay', WHERE WHAT IT READS IS OF BULK AT MOST 1048576: true; the input reads as it did. -/
def fnEveryReplayUptoRow : OpenClaim := { program := "ytpkahblajgaemaagreatdoor", sum := "422b731918402baf9657b133066e5a7e4a9cffdd3ba25488642f2b6e0379941b", func := "loop.example/g00882/laws.FnEveryReplay", spec := "fnEveryReplay", inPlace := ["internal/bytealg.CountString", "internal/bytealg.IndexByteString", "internal/bytealg.IndexString", "internal/abi.NoEscape", "internal/bytealg.MakeNoZero"], unfollowed := true, recurses := true, named := ["unicode/utf8.first", "unicode/utf8.acceptRanges", "internal/bytealg.MaxLen"], apart := false, laid := [("unicode/utf8.acceptRanges", laid_unicode_utf8_acceptRanges), ("unicode/utf8.first", laid_unicode_utf8_first)], narrowed := true }
def FnEveryReplayUptoSaid : Prop := fnEveryReplayUptoRow.holds Tryz.pinned (OpenSpec.upto fnEveryReplaySpec)

/-- 'laws.FnExactPress', WHERE WHAT IT READS IS OF BULK AT MOST 1048576: true; the input reads as it did. -/
def fnExactPressUptoRow : OpenClaim := { program := "ytpkahblajgaemaagreatdoor", sum := "422b731918402baf9657b133066e5a7e4a9cffdd3ba25488642f2b6e0379941b", func := "loop.example/g00882/laws.FnExactPress", spec := "fnExactPress", inPlace := ["internal/bytealg.CountString", "internal/bytealg.IndexByteString", "internal/bytealg.IndexString", "internal/abi.NoEscape", "internal/bytealg.MakeNoZero"], unfollowed := true, recurses := true, named := ["unicode/utf8.first", "unicode/utf8.acceptRanges", "internal/bytealg.MaxLen"], apart := false, laid := [("unicode/utf8.acceptRanges", laid_unicode_utf8_acceptRanges), ("unicode/utf8.first", laid_unicode_utf8_first)], narrowed := true }
def FnExactPressUptoSaid : Prop := fnExactPressUptoRow.holds Tryz.pinned (OpenSpec.upto fnExactPressSpec)

/-- 'laws.FnExactUndoAll', WHERE WHAT IT READS IS OF BULK AT MOST 1048576: true; the input reads as it did. -/
def fnExactUndoAllUptoRow : OpenClaim := { program := "ytpkahblajgaemaagreatdoor", sum := "422b731918402baf9657b133066e5a7e4a9cffdd3ba25488642f2b6e0379941b", func := "loop.example/g00882/laws.FnExactUndoAll", spec := "fnExactUndoAll", inPlace := ["internal/bytealg.CountString", "internal/bytealg.IndexByteString", "internal/bytealg.IndexString", "internal/abi.NoEscape", "internal/bytealg.MakeNoZero"], unfollowed := true, recurses := true, named := ["unicode/utf8.first", "unicode/utf8.acceptRanges", "internal/bytealg.MaxLen"], apart := false, laid := [("unicode/utf8.acceptRanges", laid_unicode_utf8_acceptRanges), ("unicode/utf8.first", laid_unicode_utf8_first)], narrowed := true }
def FnExactUndoAllUptoSaid : Prop := fnExactUndoAllUptoRow.holds Tryz.pinned (OpenSpec.upto fnExactUndoAllSpec)

/-- 'laws.FnUndo', WHERE WHAT IT READS IS OF BULK AT MOST 1048576: true; the input reads as it did. -/
def fnUndoUptoRow : OpenClaim := { program := "ytpkahblajgaemaagreatdoor", sum := "422b731918402baf9657b133066e5a7e4a9cffdd3ba25488642f2b6e0379941b", func := "loop.example/g00882/laws.FnUndo", spec := "fnUndo", inPlace := ["internal/bytealg.CountString", "internal/bytealg.IndexByteString", "internal/bytealg.IndexString", "internal/abi.NoEscape", "internal/bytealg.MakeNoZero"], unfollowed := true, recurses := true, named := ["unicode/utf8.first", "unicode/utf8.acceptRanges", "internal/bytealg.MaxLen"], apart := false, laid := [("unicode/utf8.acceptRanges", laid_unicode_utf8_acceptRanges), ("unicode/utf8.first", laid_unicode_utf8_first)], narrowed := true }
def FnUndoUptoSaid : Prop := fnUndoUptoRow.holds Tryz.pinned (OpenSpec.upto fnUndoSpec)

/-- 'laws.FnExactReplay', WHERE WHAT IT READS IS OF BULK AT MOST 1048576: true; the input reads as it did. -/
def fnExactReplayUptoRow : OpenClaim := { program := "ytpkahblajgaemaagreatdoor", sum := "422b731918402baf9657b133066e5a7e4a9cffdd3ba25488642f2b6e0379941b", func := "loop.example/g00882/laws.FnExactReplay", spec := "fnExactReplay", inPlace := ["internal/bytealg.CountString", "internal/bytealg.IndexByteString", "internal/bytealg.IndexString", "internal/abi.NoEscape", "internal/bytealg.MakeNoZero"], unfollowed := true, recurses := true, named := ["unicode/utf8.first", "unicode/utf8.acceptRanges", "internal/bytealg.MaxLen"], apart := false, laid := [("unicode/utf8.acceptRanges", laid_unicode_utf8_acceptRanges), ("unicode/utf8.first", laid_unicode_utf8_first)], narrowed := true }
def FnExactReplayUptoSaid : Prop := fnExactReplayUptoRow.holds Tryz.pinned (OpenSpec.upto fnExactReplaySpec)

/-- 'laws.FnPress', WHERE WHAT IT READS IS OF BULK AT MOST 1048576: true; the input reads as it did. -/
def fnPressUptoRow : OpenClaim := { program := "ytpkahblajgaemaagreatdoor", sum := "422b731918402baf9657b133066e5a7e4a9cffdd3ba25488642f2b6e0379941b", func := "loop.example/g00882/laws.FnPress", spec := "fnPress", inPlace := ["internal/bytealg.CountString", "internal/bytealg.IndexByteString", "internal/bytealg.IndexString", "internal/abi.NoEscape", "internal/bytealg.MakeNoZero"], unfollowed := true, recurses := true, named := ["unicode/utf8.first", "unicode/utf8.acceptRanges", "internal/bytealg.MaxLen"], apart := false, laid := [("unicode/utf8.acceptRanges", laid_unicode_utf8_acceptRanges), ("unicode/utf8.first", laid_unicode_utf8_first)], narrowed := true }
def FnPressUptoSaid : Prop := fnPressUptoRow.holds Tryz.pinned (OpenSpec.upto fnPressSpec)

/-- 'laws.FnExactRedefine', WHERE WHAT IT READS IS OF BULK AT MOST 1048576: true; the input reads as it did. -/
def fnExactRedefineUptoRow : OpenClaim := { program := "ytpkahblajgaemaagreatdoor", sum := "422b731918402baf9657b133066e5a7e4a9cffdd3ba25488642f2b6e0379941b", func := "loop.example/g00882/laws.FnExactRedefine", spec := "fnExactRedefine", inPlace := ["internal/bytealg.CountString", "internal/bytealg.IndexByteString", "internal/bytealg.IndexString", "internal/abi.NoEscape", "internal/bytealg.MakeNoZero"], unfollowed := true, recurses := true, named := ["unicode/utf8.first", "unicode/utf8.acceptRanges", "internal/bytealg.MaxLen"], apart := false, laid := [("unicode/utf8.acceptRanges", laid_unicode_utf8_acceptRanges), ("unicode/utf8.first", laid_unicode_utf8_first)], narrowed := true }
def FnExactRedefineUptoSaid : Prop := fnExactRedefineUptoRow.holds Tryz.pinned (OpenSpec.upto fnExactRedefineSpec)

end Rows
end Go.Proofs.YtpkahblajgaemaaGreatDoor
