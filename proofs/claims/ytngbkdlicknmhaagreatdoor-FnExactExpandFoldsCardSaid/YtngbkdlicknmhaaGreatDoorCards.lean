/-
  DERIVED. GIVEN WITH THE SEED: THE CARDS: each row of YtngbkdlicknmhaaGreatDoorRows.lean that lists a variable, with what it lists TIED to the program's text (the seventh form; the later family's looks); each row that meets fmt, with fmt's text TOLD by the authors' own Lean function (tested against real Go, not proved from fmt's source: count such statements apart). THE CARD IS WHAT COUNTS. Prove the row's statement (the work); the ties are given (YtngbkdlicknmhaaGreatDoorTie.lean); close each card by the builder's one call (the guide's Derived/Test/ToyasCard.lean, 'card_holds'). Laid BY PROGRAM, IN A SANDBOX (cutbox-door.mjs). By AI agents, Wed Nov 11 2026. No macro, syntax, notation, axiom, sorry.
-/
import Derived.Test.YtngbkdlicknmhaaGreatDoorRows
import GoSem.ClaimSeven
namespace Go.Proofs.YtngbkdlicknmhaaGreatDoor
namespace Rows

/-- THE TIED CARD OF 'laws.FnTop'. -/
def fnTopCard : Claim7 := { stood := { row := fnTopRow, standIns := [], harness := (true, "f10b7f212515cef4b603ffdd19ed5b7cb87b86cb6fddc859cb41fe9ff0de70c7"), looks := false }, kinds := [], alts := [], laidByText := true, laidKinds := [.data, .pinned], laidTests := true, laidLooks := .later }
def FnTopCardSaid : Prop := Claim7.holds Tryz.pinned (.plain (OpenSpec.ofChange fnTopSpec)) fnTopCard

/-- THE TIED CARD OF 'laws.FnRedefine'. -/
def fnRedefineCard : Claim7 := { stood := { row := fnRedefineRow, standIns := [], harness := (true, "f10b7f212515cef4b603ffdd19ed5b7cb87b86cb6fddc859cb41fe9ff0de70c7"), looks := false }, kinds := [], alts := [], laidByText := true, laidKinds := [.data, .pinned], laidTests := true, laidLooks := .later }
def FnRedefineCardSaid : Prop := Claim7.holds Tryz.pinned (.plain (OpenSpec.ofChange fnRedefineSpec)) fnRedefineCard

/-- THE TIED CARD OF 'laws.FnBriefAdded'. -/
def fnBriefAddedCard : Claim7 := { stood := { row := fnBriefAddedRow, standIns := [], harness := (true, "f10b7f212515cef4b603ffdd19ed5b7cb87b86cb6fddc859cb41fe9ff0de70c7"), looks := false }, kinds := [], alts := [], laidByText := true, laidKinds := [.data, .pinned], laidTests := true, laidLooks := .later }
def FnBriefAddedCardSaid : Prop := Claim7.holds Tryz.pinned (.plain (OpenSpec.ofChange fnBriefAddedSpec)) fnBriefAddedCard

/-- THE TIED CARD OF 'laws.FnStackEdits'. -/
def fnStackEditsCard : Claim7 := { stood := { row := fnStackEditsRow, standIns := [], harness := (true, "f10b7f212515cef4b603ffdd19ed5b7cb87b86cb6fddc859cb41fe9ff0de70c7"), looks := false }, kinds := [], alts := [], laidByText := true, laidKinds := [.data, .pinned], laidTests := true, laidLooks := .later }
def FnStackEditsCardSaid : Prop := Claim7.holds Tryz.pinned (.plain (OpenSpec.ofChange fnStackEditsSpec)) fnStackEditsCard

/-- THE TIED CARD OF 'laws.FnExactExpandFolds'. -/
def fnExactExpandFoldsCard : Claim7 := { stood := { row := fnExactExpandFoldsRow, standIns := [], harness := (true, "f10b7f212515cef4b603ffdd19ed5b7cb87b86cb6fddc859cb41fe9ff0de70c7"), looks := false }, kinds := [], alts := [], laidByText := true, laidKinds := [.data, .pinned], laidTests := true, laidLooks := .later }
def FnExactExpandFoldsCardSaid : Prop := Claim7.holds Tryz.pinned (.plain (OpenSpec.ofChange fnExactExpandFoldsSpec)) fnExactExpandFoldsCard

/-- THE TIED CARD OF 'laws.FnFoldExpand'. -/
def fnFoldExpandCard : Claim7 := { stood := { row := fnFoldExpandRow, standIns := [], harness := (true, "f10b7f212515cef4b603ffdd19ed5b7cb87b86cb6fddc859cb41fe9ff0de70c7"), looks := false }, kinds := [], alts := [], laidByText := true, laidKinds := [.data, .pinned], laidTests := true, laidLooks := .later }
def FnFoldExpandCardSaid : Prop := Claim7.holds Tryz.pinned (.plain (OpenSpec.ofChange fnFoldExpandSpec)) fnFoldExpandCard

/-- THE TIED CARD OF 'laws.FnEveryReplay'. -/
def fnEveryReplayCard : Claim7 := { stood := { row := fnEveryReplayRow, standIns := [], harness := (true, "f10b7f212515cef4b603ffdd19ed5b7cb87b86cb6fddc859cb41fe9ff0de70c7"), looks := false }, kinds := [], alts := [], laidByText := true, laidKinds := [.data, .pinned], laidTests := true, laidLooks := .later }
def FnEveryReplayCardSaid : Prop := Claim7.holds Tryz.pinned (.plain (OpenSpec.ofChange fnEveryReplaySpec)) fnEveryReplayCard

/-- THE TIED CARD OF 'laws.FnExactPress'. -/
def fnExactPressCard : Claim7 := { stood := { row := fnExactPressRow, standIns := [], harness := (true, "f10b7f212515cef4b603ffdd19ed5b7cb87b86cb6fddc859cb41fe9ff0de70c7"), looks := false }, kinds := [], alts := [], laidByText := true, laidKinds := [.data, .pinned], laidTests := true, laidLooks := .later }
def FnExactPressCardSaid : Prop := Claim7.holds Tryz.pinned (.plain (OpenSpec.ofChange fnExactPressSpec)) fnExactPressCard

/-- THE TIED CARD OF 'laws.FnExactUndoAll'. -/
def fnExactUndoAllCard : Claim7 := { stood := { row := fnExactUndoAllRow, standIns := [], harness := (true, "f10b7f212515cef4b603ffdd19ed5b7cb87b86cb6fddc859cb41fe9ff0de70c7"), looks := false }, kinds := [], alts := [], laidByText := true, laidKinds := [.data, .pinned], laidTests := true, laidLooks := .later }
def FnExactUndoAllCardSaid : Prop := Claim7.holds Tryz.pinned (.plain (OpenSpec.ofChange fnExactUndoAllSpec)) fnExactUndoAllCard

/-- THE TIED CARD OF 'laws.FnUndo'. -/
def fnUndoCard : Claim7 := { stood := { row := fnUndoRow, standIns := [], harness := (true, "f10b7f212515cef4b603ffdd19ed5b7cb87b86cb6fddc859cb41fe9ff0de70c7"), looks := false }, kinds := [], alts := [], laidByText := true, laidKinds := [.data, .pinned], laidTests := true, laidLooks := .later }
def FnUndoCardSaid : Prop := Claim7.holds Tryz.pinned (.plain (OpenSpec.ofChange fnUndoSpec)) fnUndoCard

/-- THE TIED CARD OF 'laws.FnExactReplay'. -/
def fnExactReplayCard : Claim7 := { stood := { row := fnExactReplayRow, standIns := [], harness := (true, "f10b7f212515cef4b603ffdd19ed5b7cb87b86cb6fddc859cb41fe9ff0de70c7"), looks := false }, kinds := [], alts := [], laidByText := true, laidKinds := [.data, .pinned], laidTests := true, laidLooks := .later }
def FnExactReplayCardSaid : Prop := Claim7.holds Tryz.pinned (.plain (OpenSpec.ofChange fnExactReplaySpec)) fnExactReplayCard

/-- THE TIED CARD OF 'laws.FnPress'. -/
def fnPressCard : Claim7 := { stood := { row := fnPressRow, standIns := [], harness := (true, "f10b7f212515cef4b603ffdd19ed5b7cb87b86cb6fddc859cb41fe9ff0de70c7"), looks := false }, kinds := [], alts := [], laidByText := true, laidKinds := [.data, .pinned], laidTests := true, laidLooks := .later }
def FnPressCardSaid : Prop := Claim7.holds Tryz.pinned (.plain (OpenSpec.ofChange fnPressSpec)) fnPressCard

/-- THE TIED CARD OF 'laws.FnExactRedefine'. -/
def fnExactRedefineCard : Claim7 := { stood := { row := fnExactRedefineRow, standIns := [], harness := (true, "f10b7f212515cef4b603ffdd19ed5b7cb87b86cb6fddc859cb41fe9ff0de70c7"), looks := false }, kinds := [], alts := [], laidByText := true, laidKinds := [.data, .pinned], laidTests := true, laidLooks := .later }
def FnExactRedefineCardSaid : Prop := Claim7.holds Tryz.pinned (.plain (OpenSpec.ofChange fnExactRedefineSpec)) fnExactRedefineCard

/-- THE SECOND FORM's CARD OF 'laws.FnTop'. -/
def fnTopUptoCard : Claim7 := { stood := { row := fnTopUptoRow, standIns := [], harness := (true, "f10b7f212515cef4b603ffdd19ed5b7cb87b86cb6fddc859cb41fe9ff0de70c7"), looks := false }, kinds := [], alts := [], laidByText := true, laidKinds := [.data, .pinned], laidTests := true, laidLooks := .later }
def FnTopUptoCardSaid : Prop := Claim7.holds Tryz.pinned (.plain (OpenSpec.upto fnTopSpec)) fnTopUptoCard

/-- THE SECOND FORM's CARD OF 'laws.FnRedefine'. -/
def fnRedefineUptoCard : Claim7 := { stood := { row := fnRedefineUptoRow, standIns := [], harness := (true, "f10b7f212515cef4b603ffdd19ed5b7cb87b86cb6fddc859cb41fe9ff0de70c7"), looks := false }, kinds := [], alts := [], laidByText := true, laidKinds := [.data, .pinned], laidTests := true, laidLooks := .later }
def FnRedefineUptoCardSaid : Prop := Claim7.holds Tryz.pinned (.plain (OpenSpec.upto fnRedefineSpec)) fnRedefineUptoCard

/-- THE SECOND FORM's CARD OF 'laws.FnBriefAdded'. -/
def fnBriefAddedUptoCard : Claim7 := { stood := { row := fnBriefAddedUptoRow, standIns := [], harness := (true, "f10b7f212515cef4b603ffdd19ed5b7cb87b86cb6fddc859cb41fe9ff0de70c7"), looks := false }, kinds := [], alts := [], laidByText := true, laidKinds := [.data, .pinned], laidTests := true, laidLooks := .later }
def FnBriefAddedUptoCardSaid : Prop := Claim7.holds Tryz.pinned (.plain (OpenSpec.upto fnBriefAddedSpec)) fnBriefAddedUptoCard

/-- THE SECOND FORM's CARD OF 'laws.FnStackEdits'. -/
def fnStackEditsUptoCard : Claim7 := { stood := { row := fnStackEditsUptoRow, standIns := [], harness := (true, "f10b7f212515cef4b603ffdd19ed5b7cb87b86cb6fddc859cb41fe9ff0de70c7"), looks := false }, kinds := [], alts := [], laidByText := true, laidKinds := [.data, .pinned], laidTests := true, laidLooks := .later }
def FnStackEditsUptoCardSaid : Prop := Claim7.holds Tryz.pinned (.plain (OpenSpec.upto fnStackEditsSpec)) fnStackEditsUptoCard

/-- THE SECOND FORM's CARD OF 'laws.FnExactExpandFolds'. -/
def fnExactExpandFoldsUptoCard : Claim7 := { stood := { row := fnExactExpandFoldsUptoRow, standIns := [], harness := (true, "f10b7f212515cef4b603ffdd19ed5b7cb87b86cb6fddc859cb41fe9ff0de70c7"), looks := false }, kinds := [], alts := [], laidByText := true, laidKinds := [.data, .pinned], laidTests := true, laidLooks := .later }
def FnExactExpandFoldsUptoCardSaid : Prop := Claim7.holds Tryz.pinned (.plain (OpenSpec.upto fnExactExpandFoldsSpec)) fnExactExpandFoldsUptoCard

/-- THE SECOND FORM's CARD OF 'laws.FnFoldExpand'. -/
def fnFoldExpandUptoCard : Claim7 := { stood := { row := fnFoldExpandUptoRow, standIns := [], harness := (true, "f10b7f212515cef4b603ffdd19ed5b7cb87b86cb6fddc859cb41fe9ff0de70c7"), looks := false }, kinds := [], alts := [], laidByText := true, laidKinds := [.data, .pinned], laidTests := true, laidLooks := .later }
def FnFoldExpandUptoCardSaid : Prop := Claim7.holds Tryz.pinned (.plain (OpenSpec.upto fnFoldExpandSpec)) fnFoldExpandUptoCard

/-- THE SECOND FORM's CARD OF 'laws.FnEveryReplay'. -/
def fnEveryReplayUptoCard : Claim7 := { stood := { row := fnEveryReplayUptoRow, standIns := [], harness := (true, "f10b7f212515cef4b603ffdd19ed5b7cb87b86cb6fddc859cb41fe9ff0de70c7"), looks := false }, kinds := [], alts := [], laidByText := true, laidKinds := [.data, .pinned], laidTests := true, laidLooks := .later }
def FnEveryReplayUptoCardSaid : Prop := Claim7.holds Tryz.pinned (.plain (OpenSpec.upto fnEveryReplaySpec)) fnEveryReplayUptoCard

/-- THE SECOND FORM's CARD OF 'laws.FnExactPress'. -/
def fnExactPressUptoCard : Claim7 := { stood := { row := fnExactPressUptoRow, standIns := [], harness := (true, "f10b7f212515cef4b603ffdd19ed5b7cb87b86cb6fddc859cb41fe9ff0de70c7"), looks := false }, kinds := [], alts := [], laidByText := true, laidKinds := [.data, .pinned], laidTests := true, laidLooks := .later }
def FnExactPressUptoCardSaid : Prop := Claim7.holds Tryz.pinned (.plain (OpenSpec.upto fnExactPressSpec)) fnExactPressUptoCard

/-- THE SECOND FORM's CARD OF 'laws.FnExactUndoAll'. -/
def fnExactUndoAllUptoCard : Claim7 := { stood := { row := fnExactUndoAllUptoRow, standIns := [], harness := (true, "f10b7f212515cef4b603ffdd19ed5b7cb87b86cb6fddc859cb41fe9ff0de70c7"), looks := false }, kinds := [], alts := [], laidByText := true, laidKinds := [.data, .pinned], laidTests := true, laidLooks := .later }
def FnExactUndoAllUptoCardSaid : Prop := Claim7.holds Tryz.pinned (.plain (OpenSpec.upto fnExactUndoAllSpec)) fnExactUndoAllUptoCard

/-- THE SECOND FORM's CARD OF 'laws.FnUndo'. -/
def fnUndoUptoCard : Claim7 := { stood := { row := fnUndoUptoRow, standIns := [], harness := (true, "f10b7f212515cef4b603ffdd19ed5b7cb87b86cb6fddc859cb41fe9ff0de70c7"), looks := false }, kinds := [], alts := [], laidByText := true, laidKinds := [.data, .pinned], laidTests := true, laidLooks := .later }
def FnUndoUptoCardSaid : Prop := Claim7.holds Tryz.pinned (.plain (OpenSpec.upto fnUndoSpec)) fnUndoUptoCard

/-- THE SECOND FORM's CARD OF 'laws.FnExactReplay'. -/
def fnExactReplayUptoCard : Claim7 := { stood := { row := fnExactReplayUptoRow, standIns := [], harness := (true, "f10b7f212515cef4b603ffdd19ed5b7cb87b86cb6fddc859cb41fe9ff0de70c7"), looks := false }, kinds := [], alts := [], laidByText := true, laidKinds := [.data, .pinned], laidTests := true, laidLooks := .later }
def FnExactReplayUptoCardSaid : Prop := Claim7.holds Tryz.pinned (.plain (OpenSpec.upto fnExactReplaySpec)) fnExactReplayUptoCard

/-- THE SECOND FORM's CARD OF 'laws.FnPress'. -/
def fnPressUptoCard : Claim7 := { stood := { row := fnPressUptoRow, standIns := [], harness := (true, "f10b7f212515cef4b603ffdd19ed5b7cb87b86cb6fddc859cb41fe9ff0de70c7"), looks := false }, kinds := [], alts := [], laidByText := true, laidKinds := [.data, .pinned], laidTests := true, laidLooks := .later }
def FnPressUptoCardSaid : Prop := Claim7.holds Tryz.pinned (.plain (OpenSpec.upto fnPressSpec)) fnPressUptoCard

/-- THE SECOND FORM's CARD OF 'laws.FnExactRedefine'. -/
def fnExactRedefineUptoCard : Claim7 := { stood := { row := fnExactRedefineUptoRow, standIns := [], harness := (true, "f10b7f212515cef4b603ffdd19ed5b7cb87b86cb6fddc859cb41fe9ff0de70c7"), looks := false }, kinds := [], alts := [], laidByText := true, laidKinds := [.data, .pinned], laidTests := true, laidLooks := .later }
def FnExactRedefineUptoCardSaid : Prop := Claim7.holds Tryz.pinned (.plain (OpenSpec.upto fnExactRedefineSpec)) fnExactRedefineUptoCard
end Rows
end Go.Proofs.YtngbkdlicknmhaaGreatDoor
