/-
  NARROWER THAN 'FOR EVERY INPUT', by the rows' own cells (each row's printed sentence says how): FnTrieRoundTrip: laid · FnExactLookupTrie: laid · FnExactContinuations: laid · FnExactLongestPrefix: laid · FnExactWalkTrie: laid · FnExactTrieEntries: laid · FnTrieWalk: laid · FnTrieLookup: laid · FnStackShadowed: laid · FnExactDeleteTrie: laid · FnExactInsertTrie: laid.
  DERIVED. THE GIVEN ROWS OF THIS SEAT. 11 by the template 'for every input the law returns true; each argument reads behind the call as it read before'; 0 by the template 'total and deterministic' (their statements: YtojcfpjoikmgcaaGreatDoorTotals.lean).
  GIVEN WITH THE SEED: the statements are not yours to turn. If you find one false, say at which input.
  Laid BY PROGRAM, IN A SANDBOX (cutbox-rows.mjs): the forced cells as the released guide's own fill.sh prints them over the translation f2454790f8ffdb97… (all of the seat's roots in one cut). By AI agents, Wed Nov 11 2026. No macro, syntax, notation, axiom, sorry.
-/
import Derived.Test.YtojcfpjoikmgcaaGreatDoorChecked
import GoSem.PinnedTables
import GoSem.Claim
import GoSem.ClaimJoined
import GoSem.ClaimMapViews
import Derived.JoinedTies
import Derived.KernelRfl
namespace Go.Proofs.YtojcfpjoikmgcaaGreatDoor
/- THE CELL 'sum', in the pinned program and in every row, IS THE sha256 OF THE DUMP (.gsa) THAT YtojcfpjoikmgcaaGreatDoorProg.lean LOADS. Nothing in Lean hashes anything: it is a label: what it is worth is what the hold of that sum in a sandbox is worth. -/
noncomputable def Tryz.pinned : Pinned := { name := "ytojcfpjoikmgcaagreatdoor", sum := "f2454790f8ffdb97c825a325030231a34aa9191abda4187c1c3bd993ee411fb2", checked := Tryz.checked }
namespace Rows
def none {H : Type} : Left H := { results := [], args := [] }

/- WHAT THE LISTED PACKAGE-LEVEL VARIABLES READ AS WHEN THE CALL BEGINS. Each datum BY PROGRAM (the guide's laid-datum.mjs) off the statement by which the dump's own 'gosem.cut.vars' lays the variable. In a bare row this is a premise. The card (YtojcfpjoikmgcaaGreatDoorCards.lean) ties it to the program's text. -/
def laid_unicode_utf8_acceptRanges {H : Type} : DataW H := .agg [.agg [.lit (.int .u8 128), .lit (.int .u8 191)], .agg [.lit (.int .u8 160), .lit (.int .u8 191)], .agg [.lit (.int .u8 128), .lit (.int .u8 159)], .agg [.lit (.int .u8 144), .lit (.int .u8 191)], .agg [.lit (.int .u8 128), .lit (.int .u8 143)], .agg [.lit (.int .u8 0), .lit (.int .u8 0)], .agg [.lit (.int .u8 0), .lit (.int .u8 0)], .agg [.lit (.int .u8 0), .lit (.int .u8 0)], .agg [.lit (.int .u8 0), .lit (.int .u8 0)], .agg [.lit (.int .u8 0), .lit (.int .u8 0)], .agg [.lit (.int .u8 0), .lit (.int .u8 0)], .agg [.lit (.int .u8 0), .lit (.int .u8 0)], .agg [.lit (.int .u8 0), .lit (.int .u8 0)], .agg [.lit (.int .u8 0), .lit (.int .u8 0)], .agg [.lit (.int .u8 0), .lit (.int .u8 0)], .agg [.lit (.int .u8 0), .lit (.int .u8 0)]]
/-- One of Go's own tables, pinned by name: the form's constant. -/
def laid_unicode_utf8_first : DataW Unit := Go.Pinned.utf8First

/-- 'laws.FnTrieRoundTrip': WHATEVER THE INPUT: true; the input reads as it did. -/
def fnTrieRoundTripSpec : ChangeSpec := { name := "fnTrieRoundTrip", fn := fun _ => fun
  | [d] => { results := [.lit (.bool true)], args := [d] }
  | _ => none }
def fnTrieRoundTripRow : OpenClaim := { program := "ytojcfpjoikmgcaagreatdoor", sum := "f2454790f8ffdb97c825a325030231a34aa9191abda4187c1c3bd993ee411fb2", func := "loop.example/g00882/laws.FnTrieRoundTrip", spec := "fnTrieRoundTrip", inPlace := ["internal/bytealg.CountString", "internal/bytealg.IndexByteString", "internal/bytealg.IndexString"], unfollowed := true, recurses := true, named := ["unicode/utf8.first", "unicode/utf8.acceptRanges", "internal/bytealg.MaxLen"], apart := false, laid := [("unicode/utf8.acceptRanges", laid_unicode_utf8_acceptRanges), ("unicode/utf8.first", laid_unicode_utf8_first)] }
def FnTrieRoundTripSaid : Prop := fnTrieRoundTripRow.holds Tryz.pinned (OpenSpec.ofChange fnTrieRoundTripSpec)

/-- ITS FALSE NEIGHBOUR: 'it returns false'. Refute it at one input. -/
def fnTrieRoundTripWrong : ChangeSpec := { name := "fnTrieRoundTrip", fn := fun _ => fun
  | [d] => { results := [.lit (.bool false)], args := [d] }
  | _ => none }
def FnTrieRoundTripWrongFalsely : Prop := fnTrieRoundTripRow.holds Tryz.pinned (OpenSpec.ofChange fnTrieRoundTripWrong)

/-- 'laws.FnExactLookupTrie': WHATEVER THE INPUT: true; the input reads as it did. -/
def fnExactLookupTrieSpec : ChangeSpec := { name := "fnExactLookupTrie", fn := fun _ => fun
  | [d1, d2] => { results := [.lit (.bool true)], args := [d1, d2] }
  | _ => none }
def fnExactLookupTrieRow : OpenClaim := { program := "ytojcfpjoikmgcaagreatdoor", sum := "f2454790f8ffdb97c825a325030231a34aa9191abda4187c1c3bd993ee411fb2", func := "loop.example/g00882/laws.FnExactLookupTrie", spec := "fnExactLookupTrie", inPlace := ["internal/bytealg.CountString", "internal/bytealg.IndexByteString", "internal/bytealg.IndexString"], unfollowed := true, recurses := true, named := ["unicode/utf8.first", "unicode/utf8.acceptRanges", "internal/bytealg.MaxLen"], apart := false, laid := [("unicode/utf8.acceptRanges", laid_unicode_utf8_acceptRanges), ("unicode/utf8.first", laid_unicode_utf8_first)] }
def FnExactLookupTrieSaid : Prop := fnExactLookupTrieRow.holds Tryz.pinned (OpenSpec.ofChange fnExactLookupTrieSpec)

/-- ITS FALSE NEIGHBOUR: 'it returns false'. Refute it at one input. -/
def fnExactLookupTrieWrong : ChangeSpec := { name := "fnExactLookupTrie", fn := fun _ => fun
  | [d1, d2] => { results := [.lit (.bool false)], args := [d1, d2] }
  | _ => none }
def FnExactLookupTrieWrongFalsely : Prop := fnExactLookupTrieRow.holds Tryz.pinned (OpenSpec.ofChange fnExactLookupTrieWrong)

/-- 'laws.FnExactContinuations': WHATEVER THE INPUT: true; the input reads as it did. -/
def fnExactContinuationsSpec : ChangeSpec := { name := "fnExactContinuations", fn := fun _ => fun
  | [d1, d2] => { results := [.lit (.bool true)], args := [d1, d2] }
  | _ => none }
def fnExactContinuationsRow : OpenClaim := { program := "ytojcfpjoikmgcaagreatdoor", sum := "f2454790f8ffdb97c825a325030231a34aa9191abda4187c1c3bd993ee411fb2", func := "loop.example/g00882/laws.FnExactContinuations", spec := "fnExactContinuations", inPlace := ["internal/bytealg.CountString", "internal/bytealg.IndexByteString", "internal/bytealg.IndexString"], unfollowed := true, recurses := true, named := ["unicode/utf8.first", "unicode/utf8.acceptRanges", "internal/bytealg.MaxLen"], apart := false, laid := [("unicode/utf8.acceptRanges", laid_unicode_utf8_acceptRanges), ("unicode/utf8.first", laid_unicode_utf8_first)] }
def FnExactContinuationsSaid : Prop := fnExactContinuationsRow.holds Tryz.pinned (OpenSpec.ofChange fnExactContinuationsSpec)

/-- ITS FALSE NEIGHBOUR: 'it returns false'. Refute it at one input. -/
def fnExactContinuationsWrong : ChangeSpec := { name := "fnExactContinuations", fn := fun _ => fun
  | [d1, d2] => { results := [.lit (.bool false)], args := [d1, d2] }
  | _ => none }
def FnExactContinuationsWrongFalsely : Prop := fnExactContinuationsRow.holds Tryz.pinned (OpenSpec.ofChange fnExactContinuationsWrong)

/-- 'laws.FnExactLongestPrefix': WHATEVER THE INPUT: true; the input reads as it did. -/
def fnExactLongestPrefixSpec : ChangeSpec := { name := "fnExactLongestPrefix", fn := fun _ => fun
  | [d1, d2] => { results := [.lit (.bool true)], args := [d1, d2] }
  | _ => none }
def fnExactLongestPrefixRow : OpenClaim := { program := "ytojcfpjoikmgcaagreatdoor", sum := "f2454790f8ffdb97c825a325030231a34aa9191abda4187c1c3bd993ee411fb2", func := "loop.example/g00882/laws.FnExactLongestPrefix", spec := "fnExactLongestPrefix", inPlace := ["internal/bytealg.CountString", "internal/bytealg.IndexByteString", "internal/bytealg.IndexString"], unfollowed := true, recurses := true, named := ["unicode/utf8.first", "unicode/utf8.acceptRanges", "internal/bytealg.MaxLen"], apart := false, laid := [("unicode/utf8.acceptRanges", laid_unicode_utf8_acceptRanges), ("unicode/utf8.first", laid_unicode_utf8_first)] }
def FnExactLongestPrefixSaid : Prop := fnExactLongestPrefixRow.holds Tryz.pinned (OpenSpec.ofChange fnExactLongestPrefixSpec)

/-- ITS FALSE NEIGHBOUR: 'it returns false'. Refute it at one input. -/
def fnExactLongestPrefixWrong : ChangeSpec := { name := "fnExactLongestPrefix", fn := fun _ => fun
  | [d1, d2] => { results := [.lit (.bool false)], args := [d1, d2] }
  | _ => none }
def FnExactLongestPrefixWrongFalsely : Prop := fnExactLongestPrefixRow.holds Tryz.pinned (OpenSpec.ofChange fnExactLongestPrefixWrong)

/-- 'laws.FnExactWalkTrie': WHATEVER THE INPUT: true; the input reads as it did. -/
def fnExactWalkTrieSpec : ChangeSpec := { name := "fnExactWalkTrie", fn := fun _ => fun
  | [d1, d2] => { results := [.lit (.bool true)], args := [d1, d2] }
  | _ => none }
def fnExactWalkTrieRow : OpenClaim := { program := "ytojcfpjoikmgcaagreatdoor", sum := "f2454790f8ffdb97c825a325030231a34aa9191abda4187c1c3bd993ee411fb2", func := "loop.example/g00882/laws.FnExactWalkTrie", spec := "fnExactWalkTrie", inPlace := ["internal/bytealg.CountString", "internal/bytealg.IndexByteString", "internal/bytealg.IndexString"], unfollowed := true, recurses := true, named := ["unicode/utf8.first", "unicode/utf8.acceptRanges", "internal/bytealg.MaxLen"], apart := false, laid := [("unicode/utf8.acceptRanges", laid_unicode_utf8_acceptRanges), ("unicode/utf8.first", laid_unicode_utf8_first)] }
def FnExactWalkTrieSaid : Prop := fnExactWalkTrieRow.holds Tryz.pinned (OpenSpec.ofChange fnExactWalkTrieSpec)

/-- ITS FALSE NEIGHBOUR: 'it returns false'. Refute it at one input. -/
def fnExactWalkTrieWrong : ChangeSpec := { name := "fnExactWalkTrie", fn := fun _ => fun
  | [d1, d2] => { results := [.lit (.bool false)], args := [d1, d2] }
  | _ => none }
def FnExactWalkTrieWrongFalsely : Prop := fnExactWalkTrieRow.holds Tryz.pinned (OpenSpec.ofChange fnExactWalkTrieWrong)

/-- 'laws.FnExactTrieEntries': WHATEVER THE INPUT: true; the input reads as it did. -/
def fnExactTrieEntriesSpec : ChangeSpec := { name := "fnExactTrieEntries", fn := fun _ => fun
  | [d] => { results := [.lit (.bool true)], args := [d] }
  | _ => none }
def fnExactTrieEntriesRow : OpenClaim := { program := "ytojcfpjoikmgcaagreatdoor", sum := "f2454790f8ffdb97c825a325030231a34aa9191abda4187c1c3bd993ee411fb2", func := "loop.example/g00882/laws.FnExactTrieEntries", spec := "fnExactTrieEntries", inPlace := ["internal/bytealg.CountString", "internal/bytealg.IndexByteString", "internal/bytealg.IndexString"], unfollowed := true, recurses := true, named := ["unicode/utf8.first", "unicode/utf8.acceptRanges", "internal/bytealg.MaxLen"], apart := false, laid := [("unicode/utf8.acceptRanges", laid_unicode_utf8_acceptRanges), ("unicode/utf8.first", laid_unicode_utf8_first)] }
def FnExactTrieEntriesSaid : Prop := fnExactTrieEntriesRow.holds Tryz.pinned (OpenSpec.ofChange fnExactTrieEntriesSpec)

/-- ITS FALSE NEIGHBOUR: 'it returns false'. Refute it at one input. -/
def fnExactTrieEntriesWrong : ChangeSpec := { name := "fnExactTrieEntries", fn := fun _ => fun
  | [d] => { results := [.lit (.bool false)], args := [d] }
  | _ => none }
def FnExactTrieEntriesWrongFalsely : Prop := fnExactTrieEntriesRow.holds Tryz.pinned (OpenSpec.ofChange fnExactTrieEntriesWrong)

/-- 'laws.FnTrieWalk': WHATEVER THE INPUT: true; the input reads as it did. -/
def fnTrieWalkSpec : ChangeSpec := { name := "fnTrieWalk", fn := fun _ => fun
  | [d] => { results := [.lit (.bool true)], args := [d] }
  | _ => none }
def fnTrieWalkRow : OpenClaim := { program := "ytojcfpjoikmgcaagreatdoor", sum := "f2454790f8ffdb97c825a325030231a34aa9191abda4187c1c3bd993ee411fb2", func := "loop.example/g00882/laws.FnTrieWalk", spec := "fnTrieWalk", inPlace := ["internal/bytealg.CountString", "internal/bytealg.IndexByteString", "internal/bytealg.IndexString"], unfollowed := true, recurses := true, named := ["unicode/utf8.first", "unicode/utf8.acceptRanges", "internal/bytealg.MaxLen"], apart := false, laid := [("unicode/utf8.acceptRanges", laid_unicode_utf8_acceptRanges), ("unicode/utf8.first", laid_unicode_utf8_first)] }
def FnTrieWalkSaid : Prop := fnTrieWalkRow.holds Tryz.pinned (OpenSpec.ofChange fnTrieWalkSpec)

/-- ITS FALSE NEIGHBOUR: 'it returns false'. Refute it at one input. -/
def fnTrieWalkWrong : ChangeSpec := { name := "fnTrieWalk", fn := fun _ => fun
  | [d] => { results := [.lit (.bool false)], args := [d] }
  | _ => none }
def FnTrieWalkWrongFalsely : Prop := fnTrieWalkRow.holds Tryz.pinned (OpenSpec.ofChange fnTrieWalkWrong)

/-- 'laws.FnTrieLookup': WHATEVER THE INPUT: true; the input reads as it did. -/
def fnTrieLookupSpec : ChangeSpec := { name := "fnTrieLookup", fn := fun _ => fun
  | [d] => { results := [.lit (.bool true)], args := [d] }
  | _ => none }
def fnTrieLookupRow : OpenClaim := { program := "ytojcfpjoikmgcaagreatdoor", sum := "f2454790f8ffdb97c825a325030231a34aa9191abda4187c1c3bd993ee411fb2", func := "loop.example/g00882/laws.FnTrieLookup", spec := "fnTrieLookup", inPlace := ["internal/bytealg.CountString", "internal/bytealg.IndexByteString", "internal/bytealg.IndexString"], unfollowed := true, recurses := true, named := ["unicode/utf8.first", "unicode/utf8.acceptRanges", "internal/bytealg.MaxLen"], apart := false, laid := [("unicode/utf8.acceptRanges", laid_unicode_utf8_acceptRanges), ("unicode/utf8.first", laid_unicode_utf8_first)] }
def FnTrieLookupSaid : Prop := fnTrieLookupRow.holds Tryz.pinned (OpenSpec.ofChange fnTrieLookupSpec)

/-- ITS FALSE NEIGHBOUR: 'it returns false'. Refute it at one input. -/
def fnTrieLookupWrong : ChangeSpec := { name := "fnTrieLookup", fn := fun _ => fun
  | [d] => { results := [.lit (.bool false)], args := [d] }
  | _ => none }
def FnTrieLookupWrongFalsely : Prop := fnTrieLookupRow.holds Tryz.pinned (OpenSpec.ofChange fnTrieLookupWrong)

/-- 'laws.FnStackShadowed': WHATEVER THE INPUT: true; the input reads as it did. -/
def fnStackShadowedSpec : ChangeSpec := { name := "fnStackShadowed", fn := fun _ => fun
  | [d] => { results := [.lit (.bool true)], args := [d] }
  | _ => none }
def fnStackShadowedRow : OpenClaim := { program := "ytojcfpjoikmgcaagreatdoor", sum := "f2454790f8ffdb97c825a325030231a34aa9191abda4187c1c3bd993ee411fb2", func := "loop.example/g00882/laws.FnStackShadowed", spec := "fnStackShadowed", inPlace := ["internal/bytealg.CountString", "internal/bytealg.IndexByteString", "internal/bytealg.IndexString"], unfollowed := true, recurses := true, named := ["unicode/utf8.first", "unicode/utf8.acceptRanges", "internal/bytealg.MaxLen"], apart := false, laid := [("unicode/utf8.acceptRanges", laid_unicode_utf8_acceptRanges), ("unicode/utf8.first", laid_unicode_utf8_first)] }
def FnStackShadowedSaid : Prop := fnStackShadowedRow.holds Tryz.pinned (OpenSpec.ofChange fnStackShadowedSpec)

/-- ITS FALSE NEIGHBOUR: 'it returns false'. Refute it at one input. -/
def fnStackShadowedWrong : ChangeSpec := { name := "fnStackShadowed", fn := fun _ => fun
  | [d] => { results := [.lit (.bool false)], args := [d] }
  | _ => none }
def FnStackShadowedWrongFalsely : Prop := fnStackShadowedRow.holds Tryz.pinned (OpenSpec.ofChange fnStackShadowedWrong)

/-- 'laws.FnExactDeleteTrie': WHATEVER THE INPUT: true; the input reads as it did. -/
def fnExactDeleteTrieSpec : ChangeSpec := { name := "fnExactDeleteTrie", fn := fun _ => fun
  | [d1, d2] => { results := [.lit (.bool true)], args := [d1, d2] }
  | _ => none }
def fnExactDeleteTrieRow : OpenClaim := { program := "ytojcfpjoikmgcaagreatdoor", sum := "f2454790f8ffdb97c825a325030231a34aa9191abda4187c1c3bd993ee411fb2", func := "loop.example/g00882/laws.FnExactDeleteTrie", spec := "fnExactDeleteTrie", inPlace := ["internal/bytealg.CountString", "internal/bytealg.IndexByteString", "internal/bytealg.IndexString"], unfollowed := true, recurses := true, named := ["unicode/utf8.first", "unicode/utf8.acceptRanges", "internal/bytealg.MaxLen"], apart := false, laid := [("unicode/utf8.acceptRanges", laid_unicode_utf8_acceptRanges), ("unicode/utf8.first", laid_unicode_utf8_first)] }
def FnExactDeleteTrieSaid : Prop := fnExactDeleteTrieRow.holds Tryz.pinned (OpenSpec.ofChange fnExactDeleteTrieSpec)

/-- ITS FALSE NEIGHBOUR: 'it returns false'. Refute it at one input. -/
def fnExactDeleteTrieWrong : ChangeSpec := { name := "fnExactDeleteTrie", fn := fun _ => fun
  | [d1, d2] => { results := [.lit (.bool false)], args := [d1, d2] }
  | _ => none }
def FnExactDeleteTrieWrongFalsely : Prop := fnExactDeleteTrieRow.holds Tryz.pinned (OpenSpec.ofChange fnExactDeleteTrieWrong)

/-- 'laws.FnExactInsertTrie': WHATEVER THE INPUT: true; the input reads as it did. -/
def fnExactInsertTrieSpec : ChangeSpec := { name := "fnExactInsertTrie", fn := fun _ => fun
  | [d1, d2] => { results := [.lit (.bool true)], args := [d1, d2] }
  | _ => none }
def fnExactInsertTrieRow : OpenClaim := { program := "ytojcfpjoikmgcaagreatdoor", sum := "f2454790f8ffdb97c825a325030231a34aa9191abda4187c1c3bd993ee411fb2", func := "loop.example/g00882/laws.FnExactInsertTrie", spec := "fnExactInsertTrie", inPlace := ["internal/bytealg.CountString", "internal/bytealg.IndexByteString", "internal/bytealg.IndexString"], unfollowed := true, recurses := true, named := ["unicode/utf8.first", "unicode/utf8.acceptRanges", "internal/bytealg.MaxLen"], apart := false, laid := [("unicode/utf8.acceptRanges", laid_unicode_utf8_acceptRanges), ("unicode/utf8.first", laid_unicode_utf8_first)] }
def FnExactInsertTrieSaid : Prop := fnExactInsertTrieRow.holds Tryz.pinned (OpenSpec.ofChange fnExactInsertTrieSpec)

/-- ITS FALSE NEIGHBOUR: 'it returns false'. Refute it at one input. -/
def fnExactInsertTrieWrong : ChangeSpec := { name := "fnExactInsertTrie", fn := fun _ => fun
  | [d1, d2] => { results := [.lit (.bool false)], args := [d1, d2] }
  | _ => none }
def FnExactInsertTrieWrongFalsely : Prop := fnExactInsertTrieRow.holds Tryz.pinned (OpenSpec.ofChange fnExactInsertTrieWrong)

/- THE SECOND FORM. 'bulk': how many values and letters a reading holds, each counted each time it is reached (what is shared counts as often as it is met; a slice's spare places count too). A statement '..UptoSaid' is the law's where the arguments, and the package variables that the reading takes, are together of bulk at most 1048576: NARROWER than '..Said'. Prove '..Said' where nothing that the law and all that it calls make is longer than what came in: it says more and counts as full. Else prove '..UptoSaid'. A law counts once. -/
mutual
def uptoBulk {H : Type} : DataW H → Nat
  | .lit (.string bytes) => bytes.length + 1
  | .lit _ => 1
  | .nil => 1
  | .ptr d => uptoBulk d + 1
  | .slice elems spare => uptoBulkAll elems + uptoBulkAll spare + 1
  | .agg parts => uptoBulkAll parts + 1
  | .iface _ d => uptoBulk d + 1
  | .map entries => uptoBulkEntries entries + 1
  | .held _ => 1
def uptoBulkAll {H : Type} : List (DataW H) → Nat
  | [] => 0
  | d :: r => uptoBulk d + uptoBulkAll r
def uptoBulkEntries {H : Type} : List (Lit × DataW H) → Nat
  | [] => 0
  | x :: r => uptoBulkEntry x + uptoBulkEntries r
def uptoBulkEntry {H : Type} : Lit × DataW H → Nat
  | (.string bytes, d) => bytes.length + uptoBulk d + 1
  | (_, d) => uptoBulk d + 1
 end
def uptoSmall : (H : Type) → List (DataW H) → Bool := fun _ ds => decide (uptoBulkAll ds ≤ 1048576)
def OpenSpec.upto (s : _root_.Go.ChangeSpec) : _root_.Go.OpenSpec := { _root_.Go.OpenSpec.ofChange s with cond := some uptoSmall }

/-- 'laws.FnTrieRoundTrip', WHERE WHAT IT READS IS OF BULK AT MOST 1048576: true; the input reads as it did. -/
def fnTrieRoundTripUptoRow : OpenClaim := { program := "ytojcfpjoikmgcaagreatdoor", sum := "f2454790f8ffdb97c825a325030231a34aa9191abda4187c1c3bd993ee411fb2", func := "loop.example/g00882/laws.FnTrieRoundTrip", spec := "fnTrieRoundTrip", inPlace := ["internal/bytealg.CountString", "internal/bytealg.IndexByteString", "internal/bytealg.IndexString"], unfollowed := true, recurses := true, named := ["unicode/utf8.first", "unicode/utf8.acceptRanges", "internal/bytealg.MaxLen"], apart := false, laid := [("unicode/utf8.acceptRanges", laid_unicode_utf8_acceptRanges), ("unicode/utf8.first", laid_unicode_utf8_first)], narrowed := true }
def FnTrieRoundTripUptoSaid : Prop := fnTrieRoundTripUptoRow.holds Tryz.pinned (OpenSpec.upto fnTrieRoundTripSpec)

/-- 'laws.FnExactLookupTrie', WHERE WHAT IT READS IS OF BULK AT MOST 1048576: true; the input reads as it did. -/
def fnExactLookupTrieUptoRow : OpenClaim := { program := "ytojcfpjoikmgcaagreatdoor", sum := "f2454790f8ffdb97c825a325030231a34aa9191abda4187c1c3bd993ee411fb2", func := "loop.example/g00882/laws.FnExactLookupTrie", spec := "fnExactLookupTrie", inPlace := ["internal/bytealg.CountString", "internal/bytealg.IndexByteString", "internal/bytealg.IndexString"], unfollowed := true, recurses := true, named := ["unicode/utf8.first", "unicode/utf8.acceptRanges", "internal/bytealg.MaxLen"], apart := false, laid := [("unicode/utf8.acceptRanges", laid_unicode_utf8_acceptRanges), ("unicode/utf8.first", laid_unicode_utf8_first)], narrowed := true }
def FnExactLookupTrieUptoSaid : Prop := fnExactLookupTrieUptoRow.holds Tryz.pinned (OpenSpec.upto fnExactLookupTrieSpec)

/-- 'laws.FnExactContinuations', WHERE WHAT IT READS IS OF BULK AT MOST 1048576: true; the input reads as it did. -/
def fnExactContinuationsUptoRow : OpenClaim := { program := "ytojcfpjoikmgcaagreatdoor", sum := "f2454790f8ffdb97c825a325030231a34aa9191abda4187c1c3bd993ee411fb2", func := "loop.example/g00882/laws.FnExactContinuations", spec := "fnExactContinuations", inPlace := ["internal/bytealg.CountString", "internal/bytealg.IndexByteString", "internal/bytealg.IndexString"], unfollowed := true, recurses := true, named := ["unicode/utf8.first", "unicode/utf8.acceptRanges", "internal/bytealg.MaxLen"], apart := false, laid := [("unicode/utf8.acceptRanges", laid_unicode_utf8_acceptRanges), ("unicode/utf8.first", laid_unicode_utf8_first)], narrowed := true }
def FnExactContinuationsUptoSaid : Prop := fnExactContinuationsUptoRow.holds Tryz.pinned (OpenSpec.upto fnExactContinuationsSpec)

/-- 'laws.FnExactLongestPrefix', WHERE WHAT IT READS IS OF BULK AT MOST 1048576: true; the input reads as it did. -/
def fnExactLongestPrefixUptoRow : OpenClaim := { program := "ytojcfpjoikmgcaagreatdoor", sum := "f2454790f8ffdb97c825a325030231a34aa9191abda4187c1c3bd993ee411fb2", func := "loop.example/g00882/laws.FnExactLongestPrefix", spec := "fnExactLongestPrefix", inPlace := ["internal/bytealg.CountString", "internal/bytealg.IndexByteString", "internal/bytealg.IndexString"], unfollowed := true, recurses := true, named := ["unicode/utf8.first", "unicode/utf8.acceptRanges", "internal/bytealg.MaxLen"], apart := false, laid := [("unicode/utf8.acceptRanges", laid_unicode_utf8_acceptRanges), ("unicode/utf8.first", laid_unicode_utf8_first)], narrowed := true }
def FnExactLongestPrefixUptoSaid : Prop := fnExactLongestPrefixUptoRow.holds Tryz.pinned (OpenSpec.upto fnExactLongestPrefixSpec)

/-- 'laws.FnExactWalkTrie', WHERE WHAT IT READS IS OF BULK AT MOST 1048576: true; the input reads as it did. -/
def fnExactWalkTrieUptoRow : OpenClaim := { program := "ytojcfpjoikmgcaagreatdoor", sum := "f2454790f8ffdb97c825a325030231a34aa9191abda4187c1c3bd993ee411fb2", func := "loop.example/g00882/laws.FnExactWalkTrie", spec := "fnExactWalkTrie", inPlace := ["internal/bytealg.CountString", "internal/bytealg.IndexByteString", "internal/bytealg.IndexString"], unfollowed := true, recurses := true, named := ["unicode/utf8.first", "unicode/utf8.acceptRanges", "internal/bytealg.MaxLen"], apart := false, laid := [("unicode/utf8.acceptRanges", laid_unicode_utf8_acceptRanges), ("unicode/utf8.first", laid_unicode_utf8_first)], narrowed := true }
def FnExactWalkTrieUptoSaid : Prop := fnExactWalkTrieUptoRow.holds Tryz.pinned (OpenSpec.upto fnExactWalkTrieSpec)

/-- 'laws.FnExactTrieEntries', WHERE WHAT IT READS IS OF BULK AT MOST 1048576: true; the input reads as it did. -/
def fnExactTrieEntriesUptoRow : OpenClaim := { program := "ytojcfpjoikmgcaagreatdoor", sum := "f2454790f8ffdb97c825a325030231a34aa9191abda4187c1c3bd993ee411fb2", func := "loop.example/g00882/laws.FnExactTrieEntries", spec := "fnExactTrieEntries", inPlace := ["internal/bytealg.CountString", "internal/bytealg.IndexByteString", "internal/bytealg.IndexString"], unfollowed := true, recurses := true, named := ["unicode/utf8.first", "unicode/utf8.acceptRanges", "internal/bytealg.MaxLen"], apart := false, laid := [("unicode/utf8.acceptRanges", laid_unicode_utf8_acceptRanges), ("unicode/utf8.first", laid_unicode_utf8_first)], narrowed := true }
def FnExactTrieEntriesUptoSaid : Prop := fnExactTrieEntriesUptoRow.holds Tryz.pinned (OpenSpec.upto fnExactTrieEntriesSpec)

/-- 'laws.FnTrieWalk', WHERE WHAT IT READS IS OF BULK AT MOST 1048576: true; the input reads as it did. -/
def fnTrieWalkUptoRow : OpenClaim := { program := "ytojcfpjoikmgcaagreatdoor", sum := "f2454790f8ffdb97c825a325030231a34aa9191abda4187c1c3bd993ee411fb2", func := "loop.example/g00882/laws.FnTrieWalk", spec := "fnTrieWalk", inPlace := ["internal/bytealg.CountString", "internal/bytealg.IndexByteString", "internal/bytealg.IndexString"], unfollowed := true, recurses := true, named := ["unicode/utf8.first", "unicode/utf8.acceptRanges", "internal/bytealg.MaxLen"], apart := false, laid := [("unicode/utf8.acceptRanges", laid_unicode_utf8_acceptRanges), ("unicode/utf8.first", laid_unicode_utf8_first)], narrowed := true }
def FnTrieWalkUptoSaid : Prop := fnTrieWalkUptoRow.holds Tryz.pinned (OpenSpec.upto fnTrieWalkSpec)

/-- 'laws.FnTrieLookup', WHERE WHAT IT READS IS OF BULK AT MOST 1048576: true; the input reads as it did. -/
def fnTrieLookupUptoRow : OpenClaim := { program := "ytojcfpjoikmgcaagreatdoor", sum := "f2454790f8ffdb97c825a325030231a34aa9191abda4187c1c3bd993ee411fb2", func := "loop.example/g00882/laws.FnTrieLookup", spec := "fnTrieLookup", inPlace := ["internal/bytealg.CountString", "internal/bytealg.IndexByteString", "internal/bytealg.IndexString"], unfollowed := true, recurses := true, named := ["unicode/utf8.first", "unicode/utf8.acceptRanges", "internal/bytealg.MaxLen"], apart := false, laid := [("unicode/utf8.acceptRanges", laid_unicode_utf8_acceptRanges), ("unicode/utf8.first", laid_unicode_utf8_first)], narrowed := true }
def FnTrieLookupUptoSaid : Prop := fnTrieLookupUptoRow.holds Tryz.pinned (OpenSpec.upto fnTrieLookupSpec)

/-- 'laws.FnStackShadowed', WHERE WHAT IT READS IS OF BULK AT MOST 1048576: true; the input reads as it did. -/
def fnStackShadowedUptoRow : OpenClaim := { program := "ytojcfpjoikmgcaagreatdoor", sum := "f2454790f8ffdb97c825a325030231a34aa9191abda4187c1c3bd993ee411fb2", func := "loop.example/g00882/laws.FnStackShadowed", spec := "fnStackShadowed", inPlace := ["internal/bytealg.CountString", "internal/bytealg.IndexByteString", "internal/bytealg.IndexString"], unfollowed := true, recurses := true, named := ["unicode/utf8.first", "unicode/utf8.acceptRanges", "internal/bytealg.MaxLen"], apart := false, laid := [("unicode/utf8.acceptRanges", laid_unicode_utf8_acceptRanges), ("unicode/utf8.first", laid_unicode_utf8_first)], narrowed := true }
def FnStackShadowedUptoSaid : Prop := fnStackShadowedUptoRow.holds Tryz.pinned (OpenSpec.upto fnStackShadowedSpec)

/-- 'laws.FnExactDeleteTrie', WHERE WHAT IT READS IS OF BULK AT MOST 1048576: true; the input reads as it did. -/
def fnExactDeleteTrieUptoRow : OpenClaim := { program := "ytojcfpjoikmgcaagreatdoor", sum := "f2454790f8ffdb97c825a325030231a34aa9191abda4187c1c3bd993ee411fb2", func := "loop.example/g00882/laws.FnExactDeleteTrie", spec := "fnExactDeleteTrie", inPlace := ["internal/bytealg.CountString", "internal/bytealg.IndexByteString", "internal/bytealg.IndexString"], unfollowed := true, recurses := true, named := ["unicode/utf8.first", "unicode/utf8.acceptRanges", "internal/bytealg.MaxLen"], apart := false, laid := [("unicode/utf8.acceptRanges", laid_unicode_utf8_acceptRanges), ("unicode/utf8.first", laid_unicode_utf8_first)], narrowed := true }
def FnExactDeleteTrieUptoSaid : Prop := fnExactDeleteTrieUptoRow.holds Tryz.pinned (OpenSpec.upto fnExactDeleteTrieSpec)

/-- 'laws.FnExactInsertTrie', WHERE WHAT IT READS IS OF BULK AT MOST 1048576: true; the input reads as it did. -/
def fnExactInsertTrieUptoRow : OpenClaim := { program := "ytojcfpjoikmgcaagreatdoor", sum := "f2454790f8ffdb97c825a325030231a34aa9191abda4187c1c3bd993ee411fb2", func := "loop.example/g00882/laws.FnExactInsertTrie", spec := "fnExactInsertTrie", inPlace := ["internal/bytealg.CountString", "internal/bytealg.IndexByteString", "internal/bytealg.IndexString"], unfollowed := true, recurses := true, named := ["unicode/utf8.first", "unicode/utf8.acceptRanges", "internal/bytealg.MaxLen"], apart := false, laid := [("unicode/utf8.acceptRanges", laid_unicode_utf8_acceptRanges), ("unicode/utf8.first", laid_unicode_utf8_first)], narrowed := true }
def FnExactInsertTrieUptoSaid : Prop := fnExactInsertTrieUptoRow.holds Tryz.pinned (OpenSpec.upto fnExactInsertTrieSpec)

end Rows
end Go.Proofs.YtojcfpjoikmgcaaGreatDoor
