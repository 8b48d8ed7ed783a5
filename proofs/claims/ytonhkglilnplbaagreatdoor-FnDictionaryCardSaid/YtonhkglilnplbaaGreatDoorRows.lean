/-
  NARROWER THAN 'FOR EVERY INPUT', by the rows' own cells (each row's printed sentence says how): FnExactInsert: laid · FnExactAddBrief: laid · FnStackReverse: laid · FnExactRemoveLayer: laid · FnStackLookup: laid · FnDictionary: laid · FnExactFlatten: laid · FnExactOutlinesFor: laid · FnStackShadowed: laid · FnBriefAdded: laid · FnExactMoveLayer: laid · FnStackEdits: laid.
  DERIVED. THE GIVEN ROWS OF THIS SEAT. 12 by the template 'for every input the law returns true; each argument reads behind the call as it read before'; 0 by the template 'total and deterministic' (their statements: YtonhkglilnplbaaGreatDoorTotals.lean).
  GIVEN WITH THE SEED: the statements are not yours to turn. If you find one false, say at which input.
  Laid BY PROGRAM, IN A SANDBOX (cutbox-rows.mjs): the forced cells as the released guide's own fill.sh prints them over the translation c1d64b55bb79ff50… (all of the seat's roots in one cut). By AI agents, Wed Nov 11 2026. No macro, syntax, notation, axiom, sorry.
-/
import Derived.Test.YtonhkglilnplbaaGreatDoorChecked
import GoSem.PinnedTables
import GoSem.Claim
import GoSem.ClaimJoined
import GoSem.ClaimMapViews
import Derived.JoinedTies
import Derived.KernelRfl
namespace Go.Proofs.YtonhkglilnplbaaGreatDoor
/- THE CELL 'sum', in the pinned program and in every row, IS THE sha256 OF THE DUMP (.gsa) THAT YtonhkglilnplbaaGreatDoorProg.lean LOADS. Nothing in Lean hashes anything: it is a label: what it is worth is what the hold of that sum in a sandbox is worth. -/
noncomputable def Tryz.pinned : Pinned := { name := "ytonhkglilnplbaagreatdoor", sum := "c1d64b55bb79ff5044ad3f2ff382559be83e9c5a44be1eddaccca82219a58f91", checked := Tryz.checked }
namespace Rows
def none {H : Type} : Left H := { results := [], args := [] }

/- WHAT THE LISTED PACKAGE-LEVEL VARIABLES READ AS WHEN THE CALL BEGINS. Each datum BY PROGRAM (the guide's laid-datum.mjs) off the statement by which the dump's own 'gosem.cut.vars' lays the variable. In a bare row this is a premise. The card (YtonhkglilnplbaaGreatDoorCards.lean) ties it to the program's text. -/
def laid_unicode_utf8_acceptRanges {H : Type} : DataW H := .agg [.agg [.lit (.int .u8 128), .lit (.int .u8 191)], .agg [.lit (.int .u8 160), .lit (.int .u8 191)], .agg [.lit (.int .u8 128), .lit (.int .u8 159)], .agg [.lit (.int .u8 144), .lit (.int .u8 191)], .agg [.lit (.int .u8 128), .lit (.int .u8 143)], .agg [.lit (.int .u8 0), .lit (.int .u8 0)], .agg [.lit (.int .u8 0), .lit (.int .u8 0)], .agg [.lit (.int .u8 0), .lit (.int .u8 0)], .agg [.lit (.int .u8 0), .lit (.int .u8 0)], .agg [.lit (.int .u8 0), .lit (.int .u8 0)], .agg [.lit (.int .u8 0), .lit (.int .u8 0)], .agg [.lit (.int .u8 0), .lit (.int .u8 0)], .agg [.lit (.int .u8 0), .lit (.int .u8 0)], .agg [.lit (.int .u8 0), .lit (.int .u8 0)], .agg [.lit (.int .u8 0), .lit (.int .u8 0)], .agg [.lit (.int .u8 0), .lit (.int .u8 0)]]
/-- One of Go's own tables, pinned by name: the form's constant. -/
def laid_unicode_utf8_first : DataW Unit := Go.Pinned.utf8First

/-- 'laws.FnExactInsert': WHATEVER THE INPUT: true; the input reads as it did. -/
def fnExactInsertSpec : ChangeSpec := { name := "fnExactInsert", fn := fun _ => fun
  | [d1, d2] => { results := [.lit (.bool true)], args := [d1, d2] }
  | _ => none }
def fnExactInsertRow : OpenClaim := { program := "ytonhkglilnplbaagreatdoor", sum := "c1d64b55bb79ff5044ad3f2ff382559be83e9c5a44be1eddaccca82219a58f91", func := "loop.example/g00882/laws.FnExactInsert", spec := "fnExactInsert", inPlace := ["internal/bytealg.CountString", "internal/bytealg.IndexByteString", "internal/bytealg.IndexString"], unfollowed := true, recurses := true, named := ["unicode/utf8.first", "unicode/utf8.acceptRanges", "internal/bytealg.MaxLen"], apart := false, laid := [("unicode/utf8.acceptRanges", laid_unicode_utf8_acceptRanges), ("unicode/utf8.first", laid_unicode_utf8_first)] }
def FnExactInsertSaid : Prop := fnExactInsertRow.holds Tryz.pinned (OpenSpec.ofChange fnExactInsertSpec)

/-- ITS FALSE NEIGHBOUR: 'it returns false'. Refute it at one input. -/
def fnExactInsertWrong : ChangeSpec := { name := "fnExactInsert", fn := fun _ => fun
  | [d1, d2] => { results := [.lit (.bool false)], args := [d1, d2] }
  | _ => none }
def FnExactInsertWrongFalsely : Prop := fnExactInsertRow.holds Tryz.pinned (OpenSpec.ofChange fnExactInsertWrong)

/-- 'laws.FnExactAddBrief': WHATEVER THE INPUT: true; the input reads as it did. -/
def fnExactAddBriefSpec : ChangeSpec := { name := "fnExactAddBrief", fn := fun _ => fun
  | [d1, d2, d3] => { results := [.lit (.bool true)], args := [d1, d2, d3] }
  | _ => none }
def fnExactAddBriefRow : OpenClaim := { program := "ytonhkglilnplbaagreatdoor", sum := "c1d64b55bb79ff5044ad3f2ff382559be83e9c5a44be1eddaccca82219a58f91", func := "loop.example/g00882/laws.FnExactAddBrief", spec := "fnExactAddBrief", inPlace := ["internal/bytealg.CountString", "internal/bytealg.IndexByteString", "internal/bytealg.IndexString"], unfollowed := true, recurses := true, named := ["unicode/utf8.first", "unicode/utf8.acceptRanges", "internal/bytealg.MaxLen"], apart := false, laid := [("unicode/utf8.acceptRanges", laid_unicode_utf8_acceptRanges), ("unicode/utf8.first", laid_unicode_utf8_first)] }
def FnExactAddBriefSaid : Prop := fnExactAddBriefRow.holds Tryz.pinned (OpenSpec.ofChange fnExactAddBriefSpec)

/-- ITS FALSE NEIGHBOUR: 'it returns false'. Refute it at one input. -/
def fnExactAddBriefWrong : ChangeSpec := { name := "fnExactAddBrief", fn := fun _ => fun
  | [d1, d2, d3] => { results := [.lit (.bool false)], args := [d1, d2, d3] }
  | _ => none }
def FnExactAddBriefWrongFalsely : Prop := fnExactAddBriefRow.holds Tryz.pinned (OpenSpec.ofChange fnExactAddBriefWrong)

/-- 'laws.FnStackReverse': WHATEVER THE INPUT: true; the input reads as it did. -/
def fnStackReverseSpec : ChangeSpec := { name := "fnStackReverse", fn := fun _ => fun
  | [d] => { results := [.lit (.bool true)], args := [d] }
  | _ => none }
def fnStackReverseRow : OpenClaim := { program := "ytonhkglilnplbaagreatdoor", sum := "c1d64b55bb79ff5044ad3f2ff382559be83e9c5a44be1eddaccca82219a58f91", func := "loop.example/g00882/laws.FnStackReverse", spec := "fnStackReverse", inPlace := ["internal/bytealg.CountString", "internal/bytealg.IndexByteString", "internal/bytealg.IndexString"], unfollowed := true, recurses := true, named := ["unicode/utf8.first", "unicode/utf8.acceptRanges", "internal/bytealg.MaxLen"], apart := false, laid := [("unicode/utf8.acceptRanges", laid_unicode_utf8_acceptRanges), ("unicode/utf8.first", laid_unicode_utf8_first)] }
def FnStackReverseSaid : Prop := fnStackReverseRow.holds Tryz.pinned (OpenSpec.ofChange fnStackReverseSpec)

/-- ITS FALSE NEIGHBOUR: 'it returns false'. Refute it at one input. -/
def fnStackReverseWrong : ChangeSpec := { name := "fnStackReverse", fn := fun _ => fun
  | [d] => { results := [.lit (.bool false)], args := [d] }
  | _ => none }
def FnStackReverseWrongFalsely : Prop := fnStackReverseRow.holds Tryz.pinned (OpenSpec.ofChange fnStackReverseWrong)

/-- 'laws.FnExactRemoveLayer': WHATEVER THE INPUT: true; the input reads as it did. -/
def fnExactRemoveLayerSpec : ChangeSpec := { name := "fnExactRemoveLayer", fn := fun _ => fun
  | [d1, d2] => { results := [.lit (.bool true)], args := [d1, d2] }
  | _ => none }
def fnExactRemoveLayerRow : OpenClaim := { program := "ytonhkglilnplbaagreatdoor", sum := "c1d64b55bb79ff5044ad3f2ff382559be83e9c5a44be1eddaccca82219a58f91", func := "loop.example/g00882/laws.FnExactRemoveLayer", spec := "fnExactRemoveLayer", inPlace := ["internal/bytealg.CountString", "internal/bytealg.IndexByteString", "internal/bytealg.IndexString"], unfollowed := true, recurses := true, named := ["unicode/utf8.first", "unicode/utf8.acceptRanges", "internal/bytealg.MaxLen"], apart := false, laid := [("unicode/utf8.acceptRanges", laid_unicode_utf8_acceptRanges), ("unicode/utf8.first", laid_unicode_utf8_first)] }
def FnExactRemoveLayerSaid : Prop := fnExactRemoveLayerRow.holds Tryz.pinned (OpenSpec.ofChange fnExactRemoveLayerSpec)

/-- ITS FALSE NEIGHBOUR: 'it returns false'. Refute it at one input. -/
def fnExactRemoveLayerWrong : ChangeSpec := { name := "fnExactRemoveLayer", fn := fun _ => fun
  | [d1, d2] => { results := [.lit (.bool false)], args := [d1, d2] }
  | _ => none }
def FnExactRemoveLayerWrongFalsely : Prop := fnExactRemoveLayerRow.holds Tryz.pinned (OpenSpec.ofChange fnExactRemoveLayerWrong)

/-- 'laws.FnStackLookup': WHATEVER THE INPUT: true; the input reads as it did. -/
def fnStackLookupSpec : ChangeSpec := { name := "fnStackLookup", fn := fun _ => fun
  | [d] => { results := [.lit (.bool true)], args := [d] }
  | _ => none }
def fnStackLookupRow : OpenClaim := { program := "ytonhkglilnplbaagreatdoor", sum := "c1d64b55bb79ff5044ad3f2ff382559be83e9c5a44be1eddaccca82219a58f91", func := "loop.example/g00882/laws.FnStackLookup", spec := "fnStackLookup", inPlace := ["internal/bytealg.CountString", "internal/bytealg.IndexByteString", "internal/bytealg.IndexString"], unfollowed := true, recurses := true, named := ["unicode/utf8.first", "unicode/utf8.acceptRanges", "internal/bytealg.MaxLen"], apart := false, laid := [("unicode/utf8.acceptRanges", laid_unicode_utf8_acceptRanges), ("unicode/utf8.first", laid_unicode_utf8_first)] }
def FnStackLookupSaid : Prop := fnStackLookupRow.holds Tryz.pinned (OpenSpec.ofChange fnStackLookupSpec)

/-- ITS FALSE NEIGHBOUR: 'it returns false'. Refute it at one input. -/
def fnStackLookupWrong : ChangeSpec := { name := "fnStackLookup", fn := fun _ => fun
  | [d] => { results := [.lit (.bool false)], args := [d] }
  | _ => none }
def FnStackLookupWrongFalsely : Prop := fnStackLookupRow.holds Tryz.pinned (OpenSpec.ofChange fnStackLookupWrong)

/-- 'laws.FnDictionary': WHATEVER THE INPUT: true; the input reads as it did. -/
def fnDictionarySpec : ChangeSpec := { name := "fnDictionary", fn := fun _ => fun
  | [d] => { results := [.lit (.bool true)], args := [d] }
  | _ => none }
def fnDictionaryRow : OpenClaim := { program := "ytonhkglilnplbaagreatdoor", sum := "c1d64b55bb79ff5044ad3f2ff382559be83e9c5a44be1eddaccca82219a58f91", func := "loop.example/g00882/laws.FnDictionary", spec := "fnDictionary", inPlace := ["internal/bytealg.CountString", "internal/bytealg.IndexByteString", "internal/bytealg.IndexString"], unfollowed := true, recurses := true, named := ["unicode/utf8.first", "unicode/utf8.acceptRanges", "internal/bytealg.MaxLen"], apart := false, laid := [("unicode/utf8.acceptRanges", laid_unicode_utf8_acceptRanges), ("unicode/utf8.first", laid_unicode_utf8_first)] }
def FnDictionarySaid : Prop := fnDictionaryRow.holds Tryz.pinned (OpenSpec.ofChange fnDictionarySpec)

/-- ITS FALSE NEIGHBOUR: 'it returns false'. Refute it at one input. -/
def fnDictionaryWrong : ChangeSpec := { name := "fnDictionary", fn := fun _ => fun
  | [d] => { results := [.lit (.bool false)], args := [d] }
  | _ => none }
def FnDictionaryWrongFalsely : Prop := fnDictionaryRow.holds Tryz.pinned (OpenSpec.ofChange fnDictionaryWrong)

/-- 'laws.FnExactFlatten': WHATEVER THE INPUT: true; the input reads as it did. -/
def fnExactFlattenSpec : ChangeSpec := { name := "fnExactFlatten", fn := fun _ => fun
  | [d] => { results := [.lit (.bool true)], args := [d] }
  | _ => none }
def fnExactFlattenRow : OpenClaim := { program := "ytonhkglilnplbaagreatdoor", sum := "c1d64b55bb79ff5044ad3f2ff382559be83e9c5a44be1eddaccca82219a58f91", func := "loop.example/g00882/laws.FnExactFlatten", spec := "fnExactFlatten", inPlace := ["internal/bytealg.CountString", "internal/bytealg.IndexByteString", "internal/bytealg.IndexString"], unfollowed := true, recurses := true, named := ["unicode/utf8.first", "unicode/utf8.acceptRanges", "internal/bytealg.MaxLen"], apart := false, laid := [("unicode/utf8.acceptRanges", laid_unicode_utf8_acceptRanges), ("unicode/utf8.first", laid_unicode_utf8_first)] }
def FnExactFlattenSaid : Prop := fnExactFlattenRow.holds Tryz.pinned (OpenSpec.ofChange fnExactFlattenSpec)

/-- ITS FALSE NEIGHBOUR: 'it returns false'. Refute it at one input. -/
def fnExactFlattenWrong : ChangeSpec := { name := "fnExactFlatten", fn := fun _ => fun
  | [d] => { results := [.lit (.bool false)], args := [d] }
  | _ => none }
def FnExactFlattenWrongFalsely : Prop := fnExactFlattenRow.holds Tryz.pinned (OpenSpec.ofChange fnExactFlattenWrong)

/-- 'laws.FnExactOutlinesFor': WHATEVER THE INPUT: true; the input reads as it did. -/
def fnExactOutlinesForSpec : ChangeSpec := { name := "fnExactOutlinesFor", fn := fun _ => fun
  | [d1, d2] => { results := [.lit (.bool true)], args := [d1, d2] }
  | _ => none }
def fnExactOutlinesForRow : OpenClaim := { program := "ytonhkglilnplbaagreatdoor", sum := "c1d64b55bb79ff5044ad3f2ff382559be83e9c5a44be1eddaccca82219a58f91", func := "loop.example/g00882/laws.FnExactOutlinesFor", spec := "fnExactOutlinesFor", inPlace := ["internal/bytealg.CountString", "internal/bytealg.IndexByteString", "internal/bytealg.IndexString"], unfollowed := true, recurses := true, named := ["unicode/utf8.first", "unicode/utf8.acceptRanges", "internal/bytealg.MaxLen"], apart := false, laid := [("unicode/utf8.acceptRanges", laid_unicode_utf8_acceptRanges), ("unicode/utf8.first", laid_unicode_utf8_first)] }
def FnExactOutlinesForSaid : Prop := fnExactOutlinesForRow.holds Tryz.pinned (OpenSpec.ofChange fnExactOutlinesForSpec)

/-- ITS FALSE NEIGHBOUR: 'it returns false'. Refute it at one input. -/
def fnExactOutlinesForWrong : ChangeSpec := { name := "fnExactOutlinesFor", fn := fun _ => fun
  | [d1, d2] => { results := [.lit (.bool false)], args := [d1, d2] }
  | _ => none }
def FnExactOutlinesForWrongFalsely : Prop := fnExactOutlinesForRow.holds Tryz.pinned (OpenSpec.ofChange fnExactOutlinesForWrong)

/-- 'laws.FnStackShadowed': WHATEVER THE INPUT: true; the input reads as it did. -/
def fnStackShadowedSpec : ChangeSpec := { name := "fnStackShadowed", fn := fun _ => fun
  | [d] => { results := [.lit (.bool true)], args := [d] }
  | _ => none }
def fnStackShadowedRow : OpenClaim := { program := "ytonhkglilnplbaagreatdoor", sum := "c1d64b55bb79ff5044ad3f2ff382559be83e9c5a44be1eddaccca82219a58f91", func := "loop.example/g00882/laws.FnStackShadowed", spec := "fnStackShadowed", inPlace := ["internal/bytealg.CountString", "internal/bytealg.IndexByteString", "internal/bytealg.IndexString"], unfollowed := true, recurses := true, named := ["unicode/utf8.first", "unicode/utf8.acceptRanges", "internal/bytealg.MaxLen"], apart := false, laid := [("unicode/utf8.acceptRanges", laid_unicode_utf8_acceptRanges), ("unicode/utf8.first", laid_unicode_utf8_first)] }
def FnStackShadowedSaid : Prop := fnStackShadowedRow.holds Tryz.pinned (OpenSpec.ofChange fnStackShadowedSpec)

/-- ITS FALSE NEIGHBOUR: 'it returns false'. Refute it at one input. -/
def fnStackShadowedWrong : ChangeSpec := { name := "fnStackShadowed", fn := fun _ => fun
  | [d] => { results := [.lit (.bool false)], args := [d] }
  | _ => none }
def FnStackShadowedWrongFalsely : Prop := fnStackShadowedRow.holds Tryz.pinned (OpenSpec.ofChange fnStackShadowedWrong)

/-- 'laws.FnBriefAdded': WHATEVER THE INPUT: true; the input reads as it did. -/
def fnBriefAddedSpec : ChangeSpec := { name := "fnBriefAdded", fn := fun _ => fun
  | [d] => { results := [.lit (.bool true)], args := [d] }
  | _ => none }
def fnBriefAddedRow : OpenClaim := { program := "ytonhkglilnplbaagreatdoor", sum := "c1d64b55bb79ff5044ad3f2ff382559be83e9c5a44be1eddaccca82219a58f91", func := "loop.example/g00882/laws.FnBriefAdded", spec := "fnBriefAdded", inPlace := ["internal/bytealg.CountString", "internal/bytealg.IndexByteString", "internal/bytealg.IndexString"], unfollowed := true, recurses := true, named := ["unicode/utf8.first", "unicode/utf8.acceptRanges", "internal/bytealg.MaxLen"], apart := false, laid := [("unicode/utf8.acceptRanges", laid_unicode_utf8_acceptRanges), ("unicode/utf8.first", laid_unicode_utf8_first)] }
def FnBriefAddedSaid : Prop := fnBriefAddedRow.holds Tryz.pinned (OpenSpec.ofChange fnBriefAddedSpec)

/-- ITS FALSE NEIGHBOUR: 'it returns false'. Refute it at one input. -/
def fnBriefAddedWrong : ChangeSpec := { name := "fnBriefAdded", fn := fun _ => fun
  | [d] => { results := [.lit (.bool false)], args := [d] }
  | _ => none }
def FnBriefAddedWrongFalsely : Prop := fnBriefAddedRow.holds Tryz.pinned (OpenSpec.ofChange fnBriefAddedWrong)

/-- 'laws.FnExactMoveLayer': WHATEVER THE INPUT: true; the input reads as it did. -/
def fnExactMoveLayerSpec : ChangeSpec := { name := "fnExactMoveLayer", fn := fun _ => fun
  | [d1, d2, d3] => { results := [.lit (.bool true)], args := [d1, d2, d3] }
  | _ => none }
def fnExactMoveLayerRow : OpenClaim := { program := "ytonhkglilnplbaagreatdoor", sum := "c1d64b55bb79ff5044ad3f2ff382559be83e9c5a44be1eddaccca82219a58f91", func := "loop.example/g00882/laws.FnExactMoveLayer", spec := "fnExactMoveLayer", inPlace := ["internal/bytealg.CountString", "internal/bytealg.IndexByteString", "internal/bytealg.IndexString", "slices.overlaps[loop.example/g00882/impl.Layer]"], unfollowed := true, recurses := true, named := ["unicode/utf8.first", "unicode/utf8.acceptRanges", "internal/bytealg.MaxLen"], apart := false, laid := [("unicode/utf8.acceptRanges", laid_unicode_utf8_acceptRanges), ("unicode/utf8.first", laid_unicode_utf8_first)] }
def FnExactMoveLayerSaid : Prop := fnExactMoveLayerRow.holds Tryz.pinned (OpenSpec.ofChange fnExactMoveLayerSpec)

/-- ITS FALSE NEIGHBOUR: 'it returns false'. Refute it at one input. -/
def fnExactMoveLayerWrong : ChangeSpec := { name := "fnExactMoveLayer", fn := fun _ => fun
  | [d1, d2, d3] => { results := [.lit (.bool false)], args := [d1, d2, d3] }
  | _ => none }
def FnExactMoveLayerWrongFalsely : Prop := fnExactMoveLayerRow.holds Tryz.pinned (OpenSpec.ofChange fnExactMoveLayerWrong)

/-- 'laws.FnStackEdits': WHATEVER THE INPUT: true; the input reads as it did. -/
def fnStackEditsSpec : ChangeSpec := { name := "fnStackEdits", fn := fun _ => fun
  | [d] => { results := [.lit (.bool true)], args := [d] }
  | _ => none }
def fnStackEditsRow : OpenClaim := { program := "ytonhkglilnplbaagreatdoor", sum := "c1d64b55bb79ff5044ad3f2ff382559be83e9c5a44be1eddaccca82219a58f91", func := "loop.example/g00882/laws.FnStackEdits", spec := "fnStackEdits", inPlace := ["internal/bytealg.CountString", "internal/bytealg.IndexByteString", "internal/bytealg.IndexString", "slices.overlaps[loop.example/g00882/impl.Layer]"], unfollowed := true, recurses := true, named := ["unicode/utf8.first", "unicode/utf8.acceptRanges", "internal/bytealg.MaxLen"], apart := false, laid := [("unicode/utf8.acceptRanges", laid_unicode_utf8_acceptRanges), ("unicode/utf8.first", laid_unicode_utf8_first)] }
def FnStackEditsSaid : Prop := fnStackEditsRow.holds Tryz.pinned (OpenSpec.ofChange fnStackEditsSpec)

/-- ITS FALSE NEIGHBOUR: 'it returns false'. Refute it at one input. -/
def fnStackEditsWrong : ChangeSpec := { name := "fnStackEdits", fn := fun _ => fun
  | [d] => { results := [.lit (.bool false)], args := [d] }
  | _ => none }
def FnStackEditsWrongFalsely : Prop := fnStackEditsRow.holds Tryz.pinned (OpenSpec.ofChange fnStackEditsWrong)

/- THE SECOND FORM. 'bulk': how many values and letters a reading holds, each counted each time it is reached (what is shared counts as often as it is met; a slice's spare places count too). A statement '..UptoSaid' is the law's where the arguments, and the package variables that the reading takes, are together of bulk at most 1048576: NARROWER than '..Said'. Prove '..Said' where nothing that the law and all that it calls make is longer than what came in: it says more and counts as full. Else prove '..UptoSaid'. A law counts once. -/
mutual
def uptoBulk {H : Type} : DataW H → Nat
  | .lit (.string bytes) => bytes.length + 1
  | .lit _ => 1
  | .nil => 1
  | .ptr d => uptoBulk d + 1
  | .slice elems spare => uptoBulkAll elems + uptoBulkAll spare + 1
  | .agg parts => uptoBulkAll parts + 1
  | .iface _ d => uptoBulk d + 1
  | .map entries => uptoBulkEntries entries + 1
  | .held _ => 1
def uptoBulkAll {H : Type} : List (DataW H) → Nat
  | [] => 0
  | d :: r => uptoBulk d + uptoBulkAll r
def uptoBulkEntries {H : Type} : List (Lit × DataW H) → Nat
  | [] => 0
  | x :: r => uptoBulkEntry x + uptoBulkEntries r
def uptoBulkEntry {H : Type} : Lit × DataW H → Nat
  | (.string bytes, d) => bytes.length + uptoBulk d + 1
  | (_, d) => uptoBulk d + 1
 end
def uptoSmall : (H : Type) → List (DataW H) → Bool := fun _ ds => decide (uptoBulkAll ds ≤ 1048576)
def OpenSpec.upto (s : _root_.Go.ChangeSpec) : _root_.Go.OpenSpec := { _root_.Go.OpenSpec.ofChange s with cond := some uptoSmall }

/-- 'laws.FnExactInsert', WHERE WHAT IT READS IS OF BULK AT MOST 1048576: true; the input reads as it did. -/
def fnExactInsertUptoRow : OpenClaim := { program := "ytonhkglilnplbaagreatdoor", sum := "c1d64b55bb79ff5044ad3f2ff382559be83e9c5a44be1eddaccca82219a58f91", func := "loop.example/g00882/laws.FnExactInsert", spec := "fnExactInsert", inPlace := ["internal/bytealg.CountString", "internal/bytealg.IndexByteString", "internal/bytealg.IndexString"], unfollowed := true, recurses := true, named := ["unicode/utf8.first", "unicode/utf8.acceptRanges", "internal/bytealg.MaxLen"], apart := false, laid := [("unicode/utf8.acceptRanges", laid_unicode_utf8_acceptRanges), ("unicode/utf8.first", laid_unicode_utf8_first)], narrowed := true }
def FnExactInsertUptoSaid : Prop := fnExactInsertUptoRow.holds Tryz.pinned (OpenSpec.upto fnExactInsertSpec)

/-- 'laws.FnExactAddBrief', WHERE WHAT IT READS IS OF BULK AT MOST 1048576: true; the input reads as it did. -/
def fnExactAddBriefUptoRow : OpenClaim := { program := "ytonhkglilnplbaagreatdoor", sum := "c1d64b55bb79ff5044ad3f2ff382559be83e9c5a44be1eddaccca82219a58f91", func := "loop.example/g00882/laws.FnExactAddBrief", spec := "fnExactAddBrief", inPlace := ["internal/bytealg.CountString", "internal/bytealg.IndexByteString", "internal/bytealg.IndexString"], unfollowed := true, recurses := true, named := ["unicode/utf8.first", "unicode/utf8.acceptRanges", "internal/bytealg.MaxLen"], apart := false, laid := [("unicode/utf8.acceptRanges", laid_unicode_utf8_acceptRanges), ("unicode/utf8.first", laid_unicode_utf8_first)], narrowed := true }
def FnExactAddBriefUptoSaid : Prop := fnExactAddBriefUptoRow.holds Tryz.pinned (OpenSpec.upto fnExactAddBriefSpec)

/-- 'laws.FnStackReverse', WHERE WHAT IT READS IS OF BULK AT MOST 1048576: true; the input reads as it did. -/
def fnStackReverseUptoRow : OpenClaim := { program := "ytonhkglilnplbaagreatdoor", sum := "c1d64b55bb79ff5044ad3f2ff382559be83e9c5a44be1eddaccca82219a58f91", func := "loop.example/g00882/laws.FnStackReverse", spec := "fnStackReverse", inPlace := ["internal/bytealg.CountString", "internal/bytealg.IndexByteString", "internal/bytealg.IndexString"], unfollowed := true, recurses := true, named := ["unicode/utf8.first", "unicode/utf8.acceptRanges", "internal/bytealg.MaxLen"], apart := false, laid := [("unicode/utf8.acceptRanges", laid_unicode_utf8_acceptRanges), ("unicode/utf8.first", laid_unicode_utf8_first)], narrowed := true }
def FnStackReverseUptoSaid : Prop := fnStackReverseUptoRow.holds Tryz.pinned (OpenSpec.upto fnStackReverseSpec)

/-- 'laws.FnExactRemoveLayer', WHERE WHAT IT READS IS OF BULK AT MOST 1048576: true; the input reads as it did. -/
def fnExactRemoveLayerUptoRow : OpenClaim := { program := "ytonhkglilnplbaagreatdoor", sum := "c1d64b55bb79ff5044ad3f2ff382559be83e9c5a44be1eddaccca82219a58f91", func := "loop.example/g00882/laws.FnExactRemoveLayer", spec := "fnExactRemoveLayer", inPlace := ["internal/bytealg.CountString", "internal/bytealg.IndexByteString", "internal/bytealg.IndexString"], unfollowed := true, recurses := true, named := ["unicode/utf8.first", "unicode/utf8.acceptRanges", "internal/bytealg.MaxLen"], apart := false, laid := [("unicode/utf8.acceptRanges", laid_unicode_utf8_acceptRanges), ("unicode/utf8.first", laid_unicode_utf8_first)], narrowed := true }
def FnExactRemoveLayerUptoSaid : Prop := fnExactRemoveLayerUptoRow.holds Tryz.pinned (OpenSpec.upto fnExactRemoveLayerSpec)

/-- 'laws.FnStackLookup', WHERE WHAT IT READS IS OF BULK AT MOST 1048576: true; the input reads as it did. -/
def fnStackLookupUptoRow : OpenClaim := { program := "ytonhkglilnplbaagreatdoor", sum := "c1d64b55bb79ff5044ad3f2ff382559be83e9c5a44be1eddaccca82219a58f91", func := "loop.example/g00882/laws.FnStackLookup", spec := "fnStackLookup", inPlace := ["internal/bytealg.CountString", "internal/bytealg.IndexByteString", "internal/bytealg.IndexString"], unfollowed := true, recurses := true, named := ["unicode/utf8.first", "unicode/utf8.acceptRanges", "internal/bytealg.MaxLen"], apart := false, laid := [("unicode/utf8.acceptRanges", laid_unicode_utf8_acceptRanges), ("unicode/utf8.first", laid_unicode_utf8_first)], narrowed := true }
def FnStackLookupUptoSaid : Prop := fnStackLookupUptoRow.holds Tryz.pinned (OpenSpec.upto fnStackLookupSpec)

/-- 'laws.FnDictionary', WHERE WHAT IT READS IS OF BULK AT MOST 1048576: true; the input reads as it did. -/
def fnDictionaryUptoRow : OpenClaim := { program := "ytonhkglilnplbaagreatdoor", sum := "c1d64b55bb79ff5044ad3f2ff382559be83e9c5a44be1eddaccca82219a58f91", func := "loop.example/g00882/laws.FnDictionary", spec := "fnDictionary", inPlace := ["internal/bytealg.CountString", "internal/bytealg.IndexByteString", "internal/bytealg.IndexString"], unfollowed := true, recurses := true, named := ["unicode/utf8.first", "unicode/utf8.acceptRanges", "internal/bytealg.MaxLen"], apart := false, laid := [("unicode/utf8.acceptRanges", laid_unicode_utf8_acceptRanges), ("unicode/utf8.first", laid_unicode_utf8_first)], narrowed := true }
def FnDictionaryUptoSaid : Prop := fnDictionaryUptoRow.holds Tryz.pinned (OpenSpec.upto fnDictionarySpec)

/-- 'laws.FnExactFlatten', WHERE WHAT IT READS IS OF BULK AT MOST 1048576: true; the input reads as it did. -/
def fnExactFlattenUptoRow : OpenClaim := { program := "ytonhkglilnplbaagreatdoor", sum := "c1d64b55bb79ff5044ad3f2ff382559be83e9c5a44be1eddaccca82219a58f91", func := "loop.example/g00882/laws.FnExactFlatten", spec := "fnExactFlatten", inPlace := ["internal/bytealg.CountString", "internal/bytealg.IndexByteString", "internal/bytealg.IndexString"], unfollowed := true, recurses := true, named := ["unicode/utf8.first", "unicode/utf8.acceptRanges", "internal/bytealg.MaxLen"], apart := false, laid := [("unicode/utf8.acceptRanges", laid_unicode_utf8_acceptRanges), ("unicode/utf8.first", laid_unicode_utf8_first)], narrowed := true }
def FnExactFlattenUptoSaid : Prop := fnExactFlattenUptoRow.holds Tryz.pinned (OpenSpec.upto fnExactFlattenSpec)

/-- 'laws.FnExactOutlinesFor', WHERE WHAT IT READS IS OF BULK AT MOST 1048576: true; the input reads as it did. -/
def fnExactOutlinesForUptoRow : OpenClaim := { program := "ytonhkglilnplbaagreatdoor", sum := "c1d64b55bb79ff5044ad3f2ff382559be83e9c5a44be1eddaccca82219a58f91", func := "loop.example/g00882/laws.FnExactOutlinesFor", spec := "fnExactOutlinesFor", inPlace := ["internal/bytealg.CountString", "internal/bytealg.IndexByteString", "internal/bytealg.IndexString"], unfollowed := true, recurses := true, named := ["unicode/utf8.first", "unicode/utf8.acceptRanges", "internal/bytealg.MaxLen"], apart := false, laid := [("unicode/utf8.acceptRanges", laid_unicode_utf8_acceptRanges), ("unicode/utf8.first", laid_unicode_utf8_first)], narrowed := true }
def FnExactOutlinesForUptoSaid : Prop := fnExactOutlinesForUptoRow.holds Tryz.pinned (OpenSpec.upto fnExactOutlinesForSpec)

/-- 'laws.FnStackShadowed', WHERE WHAT IT READS IS OF BULK AT MOST 1048576: true; the input reads as it did. -/
def fnStackShadowedUptoRow : OpenClaim := { program := "ytonhkglilnplbaagreatdoor", sum := "c1d64b55bb79ff5044ad3f2ff382559be83e9c5a44be1eddaccca82219a58f91", func := "loop.example/g00882/laws.FnStackShadowed", spec := "fnStackShadowed", inPlace := ["internal/bytealg.CountString", "internal/bytealg.IndexByteString", "internal/bytealg.IndexString"], unfollowed := true, recurses := true, named := ["unicode/utf8.first", "unicode/utf8.acceptRanges", "internal/bytealg.MaxLen"], apart := false, laid := [("unicode/utf8.acceptRanges", laid_unicode_utf8_acceptRanges), ("unicode/utf8.first", laid_unicode_utf8_first)], narrowed := true }
def FnStackShadowedUptoSaid : Prop := fnStackShadowedUptoRow.holds Tryz.pinned (OpenSpec.upto fnStackShadowedSpec)

/-- 'laws.FnBriefAdded', WHERE WHAT IT READS IS OF BULK AT MOST 1048576: true; the input reads as it did. -/
def fnBriefAddedUptoRow : OpenClaim := { program := "ytonhkglilnplbaagreatdoor", sum := "c1d64b55bb79ff5044ad3f2ff382559be83e9c5a44be1eddaccca82219a58f91", func := "loop.example/g00882/laws.FnBriefAdded", spec := "fnBriefAdded", inPlace := ["internal/bytealg.CountString", "internal/bytealg.IndexByteString", "internal/bytealg.IndexString"], unfollowed := true, recurses := true, named := ["unicode/utf8.first", "unicode/utf8.acceptRanges", "internal/bytealg.MaxLen"], apart := false, laid := [("unicode/utf8.acceptRanges", laid_unicode_utf8_acceptRanges), ("unicode/utf8.first", laid_unicode_utf8_first)], narrowed := true }
def FnBriefAddedUptoSaid : Prop := fnBriefAddedUptoRow.holds Tryz.pinned (OpenSpec.upto fnBriefAddedSpec)

/-- 'laws.FnExactMoveLayer', WHERE WHAT IT READS IS OF BULK AT MOST 1048576: true; the input reads as it did. -/
def fnExactMoveLayerUptoRow : OpenClaim := { program := "ytonhkglilnplbaagreatdoor", sum := "c1d64b55bb79ff5044ad3f2ff382559be83e9c5a44be1eddaccca82219a58f91", func := "loop.example/g00882/laws.FnExactMoveLayer", spec := "fnExactMoveLayer", inPlace := ["internal/bytealg.CountString", "internal/bytealg.IndexByteString", "internal/bytealg.IndexString", "slices.overlaps[loop.example/g00882/impl.Layer]"], unfollowed := true, recurses := true, named := ["unicode/utf8.first", "unicode/utf8.acceptRanges", "internal/bytealg.MaxLen"], apart := false, laid := [("unicode/utf8.acceptRanges", laid_unicode_utf8_acceptRanges), ("unicode/utf8.first", laid_unicode_utf8_first)], narrowed := true }
def FnExactMoveLayerUptoSaid : Prop := fnExactMoveLayerUptoRow.holds Tryz.pinned (OpenSpec.upto fnExactMoveLayerSpec)

/-- 'laws.FnStackEdits', WHERE WHAT IT READS IS OF BULK AT MOST 1048576: true; the input reads as it did. -/
def fnStackEditsUptoRow : OpenClaim := { program := "ytonhkglilnplbaagreatdoor", sum := "c1d64b55bb79ff5044ad3f2ff382559be83e9c5a44be1eddaccca82219a58f91", func := "loop.example/g00882/laws.FnStackEdits", spec := "fnStackEdits", inPlace := ["internal/bytealg.CountString", "internal/bytealg.IndexByteString", "internal/bytealg.IndexString", "slices.overlaps[loop.example/g00882/impl.Layer]"], unfollowed := true, recurses := true, named := ["unicode/utf8.first", "unicode/utf8.acceptRanges", "internal/bytealg.MaxLen"], apart := false, laid := [("unicode/utf8.acceptRanges", laid_unicode_utf8_acceptRanges), ("unicode/utf8.first", laid_unicode_utf8_first)], narrowed := true }
def FnStackEditsUptoSaid : Prop := fnStackEditsUptoRow.holds Tryz.pinned (OpenSpec.upto fnStackEditsSpec)

end Rows
end Go.Proofs.YtonhkglilnplbaaGreatDoor
