/-
  DERIVED. GIVEN WITH THE SEED: THE CARDS: each row of YtonhkglilnplbaaGreatDoorRows.lean that lists a variable, with what it lists TIED to the program's text (the seventh form; the later family's looks); each row that meets fmt, with fmt's text TOLD by the authors' own Lean function (tested against real Go, not proved from fmt's source: count such statements apart). THE CARD IS WHAT COUNTS. Prove the row's statement (the work); the ties are given (YtonhkglilnplbaaGreatDoorTie.lean); close each card by the builder's one call (the guide's Derived/Test/ToyasCard.lean, 'card_holds'). Laid BY PROGRAM, IN A SANDBOX (cutbox-door.mjs). By AI agents, Wed Nov 11 2026. No macro, syntax, notation, axiom, sorry.
-/
import Derived.Test.YtonhkglilnplbaaGreatDoorRows
import GoSem.ClaimSeven
namespace Go.Proofs.YtonhkglilnplbaaGreatDoor
namespace Rows

/-- THE TIED CARD OF 'laws.FnExactInsert'. -/
def fnExactInsertCard : Claim7 := { stood := { row := fnExactInsertRow, standIns := [], harness := (true, "06c42ee97cf22fed1eafd18584bc9cdc8aba2dd71474c65ce36a5468bf98a32a"), looks := false }, kinds := [], alts := [], laidByText := true, laidKinds := [.data, .pinned], laidTests := true, laidLooks := .later }
def FnExactInsertCardSaid : Prop := Claim7.holds Tryz.pinned (.plain (OpenSpec.ofChange fnExactInsertSpec)) fnExactInsertCard

/-- THE TIED CARD OF 'laws.FnExactAddBrief'. -/
def fnExactAddBriefCard : Claim7 := { stood := { row := fnExactAddBriefRow, standIns := [], harness := (true, "06c42ee97cf22fed1eafd18584bc9cdc8aba2dd71474c65ce36a5468bf98a32a"), looks := false }, kinds := [], alts := [], laidByText := true, laidKinds := [.data, .pinned], laidTests := true, laidLooks := .later }
def FnExactAddBriefCardSaid : Prop := Claim7.holds Tryz.pinned (.plain (OpenSpec.ofChange fnExactAddBriefSpec)) fnExactAddBriefCard

/-- THE TIED CARD OF 'laws.FnStackReverse'. -/
def fnStackReverseCard : Claim7 := { stood := { row := fnStackReverseRow, standIns := [], harness := (true, "06c42ee97cf22fed1eafd18584bc9cdc8aba2dd71474c65ce36a5468bf98a32a"), looks := false }, kinds := [], alts := [], laidByText := true, laidKinds := [.data, .pinned], laidTests := true, laidLooks := .later }
def FnStackReverseCardSaid : Prop := Claim7.holds Tryz.pinned (.plain (OpenSpec.ofChange fnStackReverseSpec)) fnStackReverseCard

/-- THE TIED CARD OF 'laws.FnExactRemoveLayer'. -/
def fnExactRemoveLayerCard : Claim7 := { stood := { row := fnExactRemoveLayerRow, standIns := [], harness := (true, "06c42ee97cf22fed1eafd18584bc9cdc8aba2dd71474c65ce36a5468bf98a32a"), looks := false }, kinds := [], alts := [], laidByText := true, laidKinds := [.data, .pinned], laidTests := true, laidLooks := .later }
def FnExactRemoveLayerCardSaid : Prop := Claim7.holds Tryz.pinned (.plain (OpenSpec.ofChange fnExactRemoveLayerSpec)) fnExactRemoveLayerCard

/-- THE TIED CARD OF 'laws.FnStackLookup'. -/
def fnStackLookupCard : Claim7 := { stood := { row := fnStackLookupRow, standIns := [], harness := (true, "06c42ee97cf22fed1eafd18584bc9cdc8aba2dd71474c65ce36a5468bf98a32a"), looks := false }, kinds := [], alts := [], laidByText := true, laidKinds := [.data, .pinned], laidTests := true, laidLooks := .later }
def FnStackLookupCardSaid : Prop := Claim7.holds Tryz.pinned (.plain (OpenSpec.ofChange fnStackLookupSpec)) fnStackLookupCard

/-- THE TIED CARD OF 'laws.FnDictionary'. -/
def fnDictionaryCard : Claim7 := { stood := { row := fnDictionaryRow, standIns := [], harness := (true, "06c42ee97cf22fed1eafd18584bc9cdc8aba2dd71474c65ce36a5468bf98a32a"), looks := false }, kinds := [], alts := [], laidByText := true, laidKinds := [.data, .pinned], laidTests := true, laidLooks := .later }
def FnDictionaryCardSaid : Prop := Claim7.holds Tryz.pinned (.plain (OpenSpec.ofChange fnDictionarySpec)) fnDictionaryCard

/-- THE TIED CARD OF 'laws.FnExactFlatten'. -/
def fnExactFlattenCard : Claim7 := { stood := { row := fnExactFlattenRow, standIns := [], harness := (true, "06c42ee97cf22fed1eafd18584bc9cdc8aba2dd71474c65ce36a5468bf98a32a"), looks := false }, kinds := [], alts := [], laidByText := true, laidKinds := [.data, .pinned], laidTests := true, laidLooks := .later }
def FnExactFlattenCardSaid : Prop := Claim7.holds Tryz.pinned (.plain (OpenSpec.ofChange fnExactFlattenSpec)) fnExactFlattenCard

/-- THE TIED CARD OF 'laws.FnExactOutlinesFor'. -/
def fnExactOutlinesForCard : Claim7 := { stood := { row := fnExactOutlinesForRow, standIns := [], harness := (true, "06c42ee97cf22fed1eafd18584bc9cdc8aba2dd71474c65ce36a5468bf98a32a"), looks := false }, kinds := [], alts := [], laidByText := true, laidKinds := [.data, .pinned], laidTests := true, laidLooks := .later }
def FnExactOutlinesForCardSaid : Prop := Claim7.holds Tryz.pinned (.plain (OpenSpec.ofChange fnExactOutlinesForSpec)) fnExactOutlinesForCard

/-- THE TIED CARD OF 'laws.FnStackShadowed'. -/
def fnStackShadowedCard : Claim7 := { stood := { row := fnStackShadowedRow, standIns := [], harness := (true, "06c42ee97cf22fed1eafd18584bc9cdc8aba2dd71474c65ce36a5468bf98a32a"), looks := false }, kinds := [], alts := [], laidByText := true, laidKinds := [.data, .pinned], laidTests := true, laidLooks := .later }
def FnStackShadowedCardSaid : Prop := Claim7.holds Tryz.pinned (.plain (OpenSpec.ofChange fnStackShadowedSpec)) fnStackShadowedCard

/-- THE TIED CARD OF 'laws.FnBriefAdded'. -/
def fnBriefAddedCard : Claim7 := { stood := { row := fnBriefAddedRow, standIns := [], harness := (true, "06c42ee97cf22fed1eafd18584bc9cdc8aba2dd71474c65ce36a5468bf98a32a"), looks := false }, kinds := [], alts := [], laidByText := true, laidKinds := [.data, .pinned], laidTests := true, laidLooks := .later }
def FnBriefAddedCardSaid : Prop := Claim7.holds Tryz.pinned (.plain (OpenSpec.ofChange fnBriefAddedSpec)) fnBriefAddedCard

/-- THE TIED CARD OF 'laws.FnExactMoveLayer'. -/
def fnExactMoveLayerCard : Claim7 := { stood := { row := fnExactMoveLayerRow, standIns := [], harness := (true, "06c42ee97cf22fed1eafd18584bc9cdc8aba2dd71474c65ce36a5468bf98a32a"), looks := false }, kinds := [], alts := [], laidByText := true, laidKinds := [.data, .pinned], laidTests := true, laidLooks := .later }
def FnExactMoveLayerCardSaid : Prop := Claim7.holds Tryz.pinned (.plain (OpenSpec.ofChange fnExactMoveLayerSpec)) fnExactMoveLayerCard

/-- THE TIED CARD OF 'laws.FnStackEdits'. -/
def fnStackEditsCard : Claim7 := { stood := { row := fnStackEditsRow, standIns := [], harness := (true, "06c42ee97cf22fed1eafd18584bc9cdc8aba2dd71474c65ce36a5468bf98a32a"), looks := false }, kinds := [], alts := [], laidByText := true, laidKinds := [.data, .pinned], laidTests := true, laidLooks := .later }
def FnStackEditsCardSaid : Prop := Claim7.holds Tryz.pinned (.plain (OpenSpec.ofChange fnStackEditsSpec)) fnStackEditsCard

/-- THE SECOND FORM's CARD OF 'laws.FnExactInsert'. -/
def fnExactInsertUptoCard : Claim7 := { stood := { row := fnExactInsertUptoRow, standIns := [], harness := (true, "06c42ee97cf22fed1eafd18584bc9cdc8aba2dd71474c65ce36a5468bf98a32a"), looks := false }, kinds := [], alts := [], laidByText := true, laidKinds := [.data, .pinned], laidTests := true, laidLooks := .later }
def FnExactInsertUptoCardSaid : Prop := Claim7.holds Tryz.pinned (.plain (OpenSpec.upto fnExactInsertSpec)) fnExactInsertUptoCard

/-- THE SECOND FORM's CARD OF 'laws.FnExactAddBrief'. -/
def fnExactAddBriefUptoCard : Claim7 := { stood := { row := fnExactAddBriefUptoRow, standIns := [], harness := (true, "06c42ee97cf22fed1eafd18584bc9cdc8aba2dd71474c65ce36a5468bf98a32a"), looks := false }, kinds := [], alts := [], laidByText := true, laidKinds := [.data, .pinned], laidTests := true, laidLooks := .later }
def FnExactAddBriefUptoCardSaid : Prop := Claim7.holds Tryz.pinned (.plain (OpenSpec.upto fnExactAddBriefSpec)) fnExactAddBriefUptoCard

/-- THE SECOND FORM's CARD OF 'laws.FnStackReverse'. -/
def fnStackReverseUptoCard : Claim7 := { stood := { row := fnStackReverseUptoRow, standIns := [], harness := (true, "06c42ee97cf22fed1eafd18584bc9cdc8aba2dd71474c65ce36a5468bf98a32a"), looks := false }, kinds := [], alts := [], laidByText := true, laidKinds := [.data, .pinned], laidTests := true, laidLooks := .later }
def FnStackReverseUptoCardSaid : Prop := Claim7.holds Tryz.pinned (.plain (OpenSpec.upto fnStackReverseSpec)) fnStackReverseUptoCard

/-- THE SECOND FORM's CARD OF 'laws.FnExactRemoveLayer'. -/
def fnExactRemoveLayerUptoCard : Claim7 := { stood := { row := fnExactRemoveLayerUptoRow, standIns := [], harness := (true, "06c42ee97cf22fed1eafd18584bc9cdc8aba2dd71474c65ce36a5468bf98a32a"), looks := false }, kinds := [], alts := [], laidByText := true, laidKinds := [.data, .pinned], laidTests := true, laidLooks := .later }
def FnExactRemoveLayerUptoCardSaid : Prop := Claim7.holds Tryz.pinned (.plain (OpenSpec.upto fnExactRemoveLayerSpec)) fnExactRemoveLayerUptoCard

/-- THE SECOND FORM's CARD OF 'laws.FnStackLookup'. -/
def fnStackLookupUptoCard : Claim7 := { stood := { row := fnStackLookupUptoRow, standIns := [], harness := (true, "06c42ee97cf22fed1eafd18584bc9cdc8aba2dd71474c65ce36a5468bf98a32a"), looks := false }, kinds := [], alts := [], laidByText := true, laidKinds := [.data, .pinned], laidTests := true, laidLooks := .later }
def FnStackLookupUptoCardSaid : Prop := Claim7.holds Tryz.pinned (.plain (OpenSpec.upto fnStackLookupSpec)) fnStackLookupUptoCard

/-- THE SECOND FORM's CARD OF 'laws.FnDictionary'. -/
def fnDictionaryUptoCard : Claim7 := { stood := { row := fnDictionaryUptoRow, standIns := [], harness := (true, "06c42ee97cf22fed1eafd18584bc9cdc8aba2dd71474c65ce36a5468bf98a32a"), looks := false }, kinds := [], alts := [], laidByText := true, laidKinds := [.data, .pinned], laidTests := true, laidLooks := .later }
def FnDictionaryUptoCardSaid : Prop := Claim7.holds Tryz.pinned (.plain (OpenSpec.upto fnDictionarySpec)) fnDictionaryUptoCard

/-- THE SECOND FORM's CARD OF 'laws.FnExactFlatten'. -/
def fnExactFlattenUptoCard : Claim7 := { stood := { row := fnExactFlattenUptoRow, standIns := [], harness := (true, "06c42ee97cf22fed1eafd18584bc9cdc8aba2dd71474c65ce36a5468bf98a32a"), looks := false }, kinds := [], alts := [], laidByText := true, laidKinds := [.data, .pinned], laidTests := true, laidLooks := .later }
def FnExactFlattenUptoCardSaid : Prop := Claim7.holds Tryz.pinned (.plain (OpenSpec.upto fnExactFlattenSpec)) fnExactFlattenUptoCard

/-- THE SECOND FORM's CARD OF 'laws.FnExactOutlinesFor'. -/
def fnExactOutlinesForUptoCard : Claim7 := { stood := { row := fnExactOutlinesForUptoRow, standIns := [], harness := (true, "06c42ee97cf22fed1eafd18584bc9cdc8aba2dd71474c65ce36a5468bf98a32a"), looks := false }, kinds := [], alts := [], laidByText := true, laidKinds := [.data, .pinned], laidTests := true, laidLooks := .later }
def FnExactOutlinesForUptoCardSaid : Prop := Claim7.holds Tryz.pinned (.plain (OpenSpec.upto fnExactOutlinesForSpec)) fnExactOutlinesForUptoCard

/-- THE SECOND FORM's CARD OF 'laws.FnStackShadowed'. -/
def fnStackShadowedUptoCard : Claim7 := { stood := { row := fnStackShadowedUptoRow, standIns := [], harness := (true, "06c42ee97cf22fed1eafd18584bc9cdc8aba2dd71474c65ce36a5468bf98a32a"), looks := false }, kinds := [], alts := [], laidByText := true, laidKinds := [.data, .pinned], laidTests := true, laidLooks := .later }
def FnStackShadowedUptoCardSaid : Prop := Claim7.holds Tryz.pinned (.plain (OpenSpec.upto fnStackShadowedSpec)) fnStackShadowedUptoCard

/-- THE SECOND FORM's CARD OF 'laws.FnBriefAdded'. -/
def fnBriefAddedUptoCard : Claim7 := { stood := { row := fnBriefAddedUptoRow, standIns := [], harness := (true, "06c42ee97cf22fed1eafd18584bc9cdc8aba2dd71474c65ce36a5468bf98a32a"), looks := false }, kinds := [], alts := [], laidByText := true, laidKinds := [.data, .pinned], laidTests := true, laidLooks := .later }
def FnBriefAddedUptoCardSaid : Prop := Claim7.holds Tryz.pinned (.plain (OpenSpec.upto fnBriefAddedSpec)) fnBriefAddedUptoCard

/-- THE SECOND FORM's CARD OF 'laws.FnExactMoveLayer'. -/
def fnExactMoveLayerUptoCard : Claim7 := { stood := { row := fnExactMoveLayerUptoRow, standIns := [], harness := (true, "06c42ee97cf22fed1eafd18584bc9cdc8aba2dd71474c65ce36a5468bf98a32a"), looks := false }, kinds := [], alts := [], laidByText := true, laidKinds := [.data, .pinned], laidTests := true, laidLooks := .later }
def FnExactMoveLayerUptoCardSaid : Prop := Claim7.holds Tryz.pinned (.plain (OpenSpec.upto fnExactMoveLayerSpec)) fnExactMoveLayerUptoCard

/-- THE SECOND FORM's CARD OF 'laws.FnStackEdits'. -/
def fnStackEditsUptoCard : Claim7 := { stood := { row := fnStackEditsUptoRow, standIns := [], harness := (true, "06c42ee97cf22fed1eafd18584bc9cdc8aba2dd71474c65ce36a5468bf98a32a"), looks := false }, kinds := [], alts := [], laidByText := true, laidKinds := [.data, .pinned], laidTests := true, laidLooks := .later }
def FnStackEditsUptoCardSaid : Prop := Claim7.holds Tryz.pinned (.plain (OpenSpec.upto fnStackEditsSpec)) fnStackEditsUptoCard
end Rows
end Go.Proofs.YtonhkglilnplbaaGreatDoor
