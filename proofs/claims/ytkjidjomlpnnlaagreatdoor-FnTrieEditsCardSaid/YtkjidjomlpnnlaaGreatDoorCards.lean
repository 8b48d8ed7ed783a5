/-
  DERIVED. GIVEN WITH THE SEED: THE CARDS: each row of YtkjidjomlpnnlaaGreatDoorRows.lean that lists a variable, with what it lists TIED to the program's text (the seventh form; the later family's looks); each row that meets fmt, with fmt's text TOLD by the authors' own Lean function (tested against real Go, not proved from fmt's source: count such statements apart). THE CARD IS WHAT COUNTS. Prove the row's statement (the work); the ties are given (YtkjidjomlpnnlaaGreatDoorTie.lean); close each card by the builder's one call (the guide's Derived/Test/ToyasCard.lean, 'card_holds'). Laid BY PROGRAM, IN A SANDBOX (cutbox-door.mjs). By AI agents, Wed Nov 11 2026. No macro, syntax, notation, axiom, sorry.
-/
import Derived.Test.YtkjidjomlpnnlaaGreatDoorRows
import GoSem.ClaimSeven
namespace Go.Proofs.YtkjidjomlpnnlaaGreatDoor
namespace Rows

/-- THE TIED CARD OF 'laws.FnBriefAdded'. -/
def fnBriefAddedCard : Claim7 := { stood := { row := fnBriefAddedRow, standIns := [], harness := (true, "93821995d52aba369fab78e618f6743a639186c43b32d27e1b390cf76cb2b184"), looks := false }, kinds := [], alts := [], laidByText := true, laidKinds := [.data, .pinned], laidTests := true, laidLooks := .later }
def FnBriefAddedCardSaid : Prop := Claim7.holds Tryz.pinned (.plain (OpenSpec.ofChange fnBriefAddedSpec)) fnBriefAddedCard

/-- THE TIED CARD OF 'laws.FnStackEdits'. -/
def fnStackEditsCard : Claim7 := { stood := { row := fnStackEditsRow, standIns := [], harness := (true, "93821995d52aba369fab78e618f6743a639186c43b32d27e1b390cf76cb2b184"), looks := false }, kinds := [], alts := [], laidByText := true, laidKinds := [.data, .pinned], laidTests := true, laidLooks := .later }
def FnStackEditsCardSaid : Prop := Claim7.holds Tryz.pinned (.plain (OpenSpec.ofChange fnStackEditsSpec)) fnStackEditsCard

/-- THE TIED CARD OF 'laws.FnExactExpandFolds'. -/
def fnExactExpandFoldsCard : Claim7 := { stood := { row := fnExactExpandFoldsRow, standIns := [], harness := (true, "93821995d52aba369fab78e618f6743a639186c43b32d27e1b390cf76cb2b184"), looks := false }, kinds := [], alts := [], laidByText := true, laidKinds := [.data, .pinned], laidTests := true, laidLooks := .later }
def FnExactExpandFoldsCardSaid : Prop := Claim7.holds Tryz.pinned (.plain (OpenSpec.ofChange fnExactExpandFoldsSpec)) fnExactExpandFoldsCard

/-- THE TIED CARD OF 'laws.FnFoldExpand'. -/
def fnFoldExpandCard : Claim7 := { stood := { row := fnFoldExpandRow, standIns := [], harness := (true, "93821995d52aba369fab78e618f6743a639186c43b32d27e1b390cf76cb2b184"), looks := false }, kinds := [], alts := [], laidByText := true, laidKinds := [.data, .pinned], laidTests := true, laidLooks := .later }
def FnFoldExpandCardSaid : Prop := Claim7.holds Tryz.pinned (.plain (OpenSpec.ofChange fnFoldExpandSpec)) fnFoldExpandCard

/-- THE TIED CARD OF 'laws.FnTrieEdits'. -/
def fnTrieEditsCard : Claim7 := { stood := { row := fnTrieEditsRow, standIns := [], harness := (true, "93821995d52aba369fab78e618f6743a639186c43b32d27e1b390cf76cb2b184"), looks := false }, kinds := [], alts := [], laidByText := true, laidKinds := [.data, .pinned], laidTests := true, laidLooks := .later }
def FnTrieEditsCardSaid : Prop := Claim7.holds Tryz.pinned (.plain (OpenSpec.ofChange fnTrieEditsSpec)) fnTrieEditsCard

/-- THE SECOND FORM's CARD OF 'laws.FnBriefAdded'. -/
def fnBriefAddedUptoCard : Claim7 := { stood := { row := fnBriefAddedUptoRow, standIns := [], harness := (true, "93821995d52aba369fab78e618f6743a639186c43b32d27e1b390cf76cb2b184"), looks := false }, kinds := [], alts := [], laidByText := true, laidKinds := [.data, .pinned], laidTests := true, laidLooks := .later }
def FnBriefAddedUptoCardSaid : Prop := Claim7.holds Tryz.pinned (.plain (OpenSpec.upto fnBriefAddedSpec)) fnBriefAddedUptoCard

/-- THE SECOND FORM's CARD OF 'laws.FnStackEdits'. -/
def fnStackEditsUptoCard : Claim7 := { stood := { row := fnStackEditsUptoRow, standIns := [], harness := (true, "93821995d52aba369fab78e618f6743a639186c43b32d27e1b390cf76cb2b184"), looks := false }, kinds := [], alts := [], laidByText := true, laidKinds := [.data, .pinned], laidTests := true, laidLooks := .later }
def FnStackEditsUptoCardSaid : Prop := Claim7.holds Tryz.pinned (.plain (OpenSpec.upto fnStackEditsSpec)) fnStackEditsUptoCard

/-- THE SECOND FORM's CARD OF 'laws.FnExactExpandFolds'. -/
def fnExactExpandFoldsUptoCard : Claim7 := { stood := { row := fnExactExpandFoldsUptoRow, standIns := [], harness := (true, "93821995d52aba369fab78e618f6743a639186c43b32d27e1b390cf76cb2b184"), looks := false }, kinds := [], alts := [], laidByText := true, laidKinds := [.data, .pinned], laidTests := true, laidLooks := .later }
def FnExactExpandFoldsUptoCardSaid : Prop := Claim7.holds Tryz.pinned (.plain (OpenSpec.upto fnExactExpandFoldsSpec)) fnExactExpandFoldsUptoCard

/-- THE SECOND FORM's CARD OF 'laws.FnFoldExpand'. -/
def fnFoldExpandUptoCard : Claim7 := { stood := { row := fnFoldExpandUptoRow, standIns := [], harness := (true, "93821995d52aba369fab78e618f6743a639186c43b32d27e1b390cf76cb2b184"), looks := false }, kinds := [], alts := [], laidByText := true, laidKinds := [.data, .pinned], laidTests := true, laidLooks := .later }
def FnFoldExpandUptoCardSaid : Prop := Claim7.holds Tryz.pinned (.plain (OpenSpec.upto fnFoldExpandSpec)) fnFoldExpandUptoCard

/-- THE SECOND FORM's CARD OF 'laws.FnTrieEdits'. -/
def fnTrieEditsUptoCard : Claim7 := { stood := { row := fnTrieEditsUptoRow, standIns := [], harness := (true, "93821995d52aba369fab78e618f6743a639186c43b32d27e1b390cf76cb2b184"), looks := false }, kinds := [], alts := [], laidByText := true, laidKinds := [.data, .pinned], laidTests := true, laidLooks := .later }
def FnTrieEditsUptoCardSaid : Prop := Claim7.holds Tryz.pinned (.plain (OpenSpec.upto fnTrieEditsSpec)) fnTrieEditsUptoCard
end Rows
end Go.Proofs.YtkjidjomlpnnlaaGreatDoor
