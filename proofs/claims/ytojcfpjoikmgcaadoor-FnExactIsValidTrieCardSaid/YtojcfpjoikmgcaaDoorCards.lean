/-
  DERIVED. GIVEN WITH THE SEED: THE CARDS: each row of YtojcfpjoikmgcaaDoorRows.lean that lists a variable, with what it lists TIED to the program's text (the seventh form; the later family's looks); each row that meets fmt, with fmt's text TOLD by the authors' own Lean function (tested against real Go, not proved from fmt's source: count such statements apart). THE CARD IS WHAT COUNTS. Prove the row's statement (the work); the ties are given (YtojcfpjoikmgcaaDoorTie.lean); close each card by the builder's one call (the guide's Derived/Test/ToyasCard.lean, 'card_holds'). Laid BY PROGRAM, IN A SANDBOX (cutbox-door.mjs). By AI agents, Wed Nov 11 2026. No macro, syntax, notation, axiom, sorry.
-/
import Derived.Test.YtojcfpjoikmgcaaDoorRows
import GoSem.ClaimSeven
namespace Go.Proofs.YtojcfpjoikmgcaaDoor
namespace Rows

/-- THE TIED CARD OF 'laws.FnExactIsValidTrie'. -/
def fnExactIsValidTrieCard : Claim7 := { stood := { row := fnExactIsValidTrieRow, standIns := [], harness := (true, "db0093082f9c2c141bcd4bb506b0c03aca23091d273f40a01e5bb1e1269adaac"), looks := false }, kinds := [], alts := [], laidByText := true, laidKinds := [.data, .pinned], laidTests := true, laidLooks := .later }
def FnExactIsValidTrieCardSaid : Prop := Claim7.holds Tryd.pinned (.plain (OpenSpec.ofChange fnExactIsValidTrieSpec)) fnExactIsValidTrieCard

/-- THE SECOND FORM's CARD OF 'laws.FnExactIsValidTrie'. -/
def fnExactIsValidTrieUptoCard : Claim7 := { stood := { row := fnExactIsValidTrieUptoRow, standIns := [], harness := (true, "db0093082f9c2c141bcd4bb506b0c03aca23091d273f40a01e5bb1e1269adaac"), looks := false }, kinds := [], alts := [], laidByText := true, laidKinds := [.data, .pinned], laidTests := true, laidLooks := .later }
def FnExactIsValidTrieUptoCardSaid : Prop := Claim7.holds Tryd.pinned (.plain (OpenSpec.upto fnExactIsValidTrieSpec)) fnExactIsValidTrieUptoCard
end Rows
end Go.Proofs.YtojcfpjoikmgcaaDoor
