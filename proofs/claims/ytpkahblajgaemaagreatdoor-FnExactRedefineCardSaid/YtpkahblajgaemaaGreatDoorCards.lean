/-
  DERIVED. GIVEN WITH THE SEED: THE CARDS: each row of YtpkahblajgaemaaGreatDoorRows.lean that lists a variable, with what it lists TIED to the program's text (the seventh form; the later family's looks); each row that meets fmt, with fmt's text TOLD by the authors' own Lean function (tested against real Go, not proved from fmt's source: count such statements apart). THE CARD IS WHAT COUNTS. Prove the row's statement (the work); the ties are given (YtpkahblajgaemaaGreatDoorTie.lean); close each card by the builder's one call (the guide's Derived/Test/ToyasCard.lean, 'card_holds'). Laid BY PROGRAM, IN A SANDBOX (cutbox-door.mjs). By AI agents, Wed Nov 11 2026. No macro, syntax, notation, axiom, sorry.
-/
import Derived.Test.YtpkahblajgaemaaGreatDoorRows
import GoSem.ClaimSeven
namespace Go.Proofs.YtpkahblajgaemaaGreatDoor
namespace Rows

/-- THE TIED CARD OF 'laws.FnTop'. -/
def fnTopCard : Claim7 := { stood := { row := fnTopRow, standIns := [], harness := (true, "92427ea38dfe190a0c6312ce215b86933efb03efcc7a7f386244833de115d681"), looks := false }, kinds := [], alts := [], laidByText := true, laidKinds := [.data, .pinned], laidTests := true, laidLooks := .later }
def FnTopCardSaid : Prop := Claim7.holds Tryz.pinned (.plain (OpenSpec.ofChange fnTopSpec)) fnTopCard

/-- THE TIED CARD OF 'laws.FnRedefine'. -/
def fnRedefineCard : Claim7 := { stood := { row := fnRedefineRow, standIns := [], harness := (true, "92427ea38dfe190a0c6312ce215b86933efb03efcc7a7f386244833de115d681"), looks := false }, kinds := [], alts := [], laidByText := true, laidKinds := [.data, .pinned], laidTests := true, laidLooks := .later }
def FnRedefineCardSaid : Prop := Claim7.holds Tryz.pinned (.plain (OpenSpec.ofChange fnRedefineSpec)) fnRedefineCard

/-- THE TIED CARD OF 'laws.FnEveryReplay'. -/
def fnEveryReplayCard : Claim7 := { stood := { row := fnEveryReplayRow, standIns := [], harness := (true, "92427ea38dfe190a0c6312ce215b86933efb03efcc7a7f386244833de115d681"), looks := false }, kinds := [], alts := [], laidByText := true, laidKinds := [.data, .pinned], laidTests := true, laidLooks := .later }
def FnEveryReplayCardSaid : Prop := Claim7.holds Tryz.pinned (.plain (OpenSpec.ofChange fnEveryReplaySpec)) fnEveryReplayCard

/-- THE TIED CARD OF 'laws.FnExactPress'. -/
def fnExactPressCard : Claim7 := { stood := { row := fnExactPressRow, standIns := [], harness := (true, "92427ea38dfe190a0c6312ce215b86933efb03efcc7a7f386244833de115d681"), looks := false }, kinds := [], alts := [], laidByText := true, laidKinds := [.data, .pinned], laidTests := true, laidLooks := .later }
def FnExactPressCardSaid : Prop := Claim7.holds Tryz.pinned (.plain (OpenSpec.ofChange fnExactPressSpec)) fnExactPressCard

/-- THE TIED CARD OF 'laws.FnExactUndoAll'. -/
def fnExactUndoAllCard : Claim7 := { stood := { row := fnExactUndoAllRow, standIns := [], harness := (true, "92427ea38dfe190a0c6312ce215b86933efb03efcc7a7f386244833de115d681"), looks := false }, kinds := [], alts := [], laidByText := true, laidKinds := [.data, .pinned], laidTests := true, laidLooks := .later }
def FnExactUndoAllCardSaid : Prop := Claim7.holds Tryz.pinned (.plain (OpenSpec.ofChange fnExactUndoAllSpec)) fnExactUndoAllCard

/-- THE TIED CARD OF 'laws.FnUndo'. -/
def fnUndoCard : Claim7 := { stood := { row := fnUndoRow, standIns := [], harness := (true, "92427ea38dfe190a0c6312ce215b86933efb03efcc7a7f386244833de115d681"), looks := false }, kinds := [], alts := [], laidByText := true, laidKinds := [.data, .pinned], laidTests := true, laidLooks := .later }
def FnUndoCardSaid : Prop := Claim7.holds Tryz.pinned (.plain (OpenSpec.ofChange fnUndoSpec)) fnUndoCard

/-- THE TIED CARD OF 'laws.FnExactReplay'. -/
def fnExactReplayCard : Claim7 := { stood := { row := fnExactReplayRow, standIns := [], harness := (true, "92427ea38dfe190a0c6312ce215b86933efb03efcc7a7f386244833de115d681"), looks := false }, kinds := [], alts := [], laidByText := true, laidKinds := [.data, .pinned], laidTests := true, laidLooks := .later }
def FnExactReplayCardSaid : Prop := Claim7.holds Tryz.pinned (.plain (OpenSpec.ofChange fnExactReplaySpec)) fnExactReplayCard

/-- THE TIED CARD OF 'laws.FnPress'. -/
def fnPressCard : Claim7 := { stood := { row := fnPressRow, standIns := [], harness := (true, "92427ea38dfe190a0c6312ce215b86933efb03efcc7a7f386244833de115d681"), looks := false }, kinds := [], alts := [], laidByText := true, laidKinds := [.data, .pinned], laidTests := true, laidLooks := .later }
def FnPressCardSaid : Prop := Claim7.holds Tryz.pinned (.plain (OpenSpec.ofChange fnPressSpec)) fnPressCard

/-- THE TIED CARD OF 'laws.FnExactRedefine'. -/
def fnExactRedefineCard : Claim7 := { stood := { row := fnExactRedefineRow, standIns := [], harness := (true, "92427ea38dfe190a0c6312ce215b86933efb03efcc7a7f386244833de115d681"), looks := false }, kinds := [], alts := [], laidByText := true, laidKinds := [.data, .pinned], laidTests := true, laidLooks := .later }
def FnExactRedefineCardSaid : Prop := Claim7.holds Tryz.pinned (.plain (OpenSpec.ofChange fnExactRedefineSpec)) fnExactRedefineCard

/-- THE SECOND FORM's CARD OF 'laws.FnTop'. -/
def fnTopUptoCard : Claim7 := { stood := { row := fnTopUptoRow, standIns := [], harness := (true, "92427ea38dfe190a0c6312ce215b86933efb03efcc7a7f386244833de115d681"), looks := false }, kinds := [], alts := [], laidByText := true, laidKinds := [.data, .pinned], laidTests := true, laidLooks := .later }
def FnTopUptoCardSaid : Prop := Claim7.holds Tryz.pinned (.plain (OpenSpec.upto fnTopSpec)) fnTopUptoCard

/-- THE SECOND FORM's CARD OF 'laws.FnRedefine'. -/
def fnRedefineUptoCard : Claim7 := { stood := { row := fnRedefineUptoRow, standIns := [], harness := (true, "92427ea38dfe190a0c6312ce215b86933efb03efcc7a7f386244833de115d681"), looks := false }, kinds := [], alts := [], laidByText := true, laidKinds := [.data, .pinned], laidTests := true, laidLooks := .later }
def FnRedefineUptoCardSaid : Prop := Claim7.holds Tryz.pinned (.plain (OpenSpec.upto fnRedefineSpec)) fnRedefineUptoCard

/-- THE SECOND FORM's CARD OF 'laws.FnEveryReplay'. -/
def fnEveryReplayUptoCard : Claim7 := { stood := { row := fnEveryReplayUptoRow, standIns := [], harness := (true, "92427ea38dfe190a0c6312ce215b86933efb03efcc7a7f386244833de115d681"), looks := false }, kinds := [], alts := [], laidByText := true, laidKinds := [.data, .pinned], laidTests := true, laidLooks := .later }
def FnEveryReplayUptoCardSaid : Prop := Claim7.holds Tryz.pinned (.plain (OpenSpec.upto fnEveryReplaySpec)) fnEveryReplayUptoCard

/-- THE SECOND FORM's CARD OF 'laws.FnExactPress'. -/
def fnExactPressUptoCard : Claim7 := { stood := { row := fnExactPressUptoRow, standIns := [], harness := (true, "92427ea38dfe190a0c6312ce215b86933efb03efcc7a7f386244833de115d681"), looks := false }, kinds := [], alts := [], laidByText := true, laidKinds := [.data, .pinned], laidTests := true, laidLooks := .later }
def FnExactPressUptoCardSaid : Prop := Claim7.holds Tryz.pinned (.plain (OpenSpec.upto fnExactPressSpec)) fnExactPressUptoCard

/-- THE SECOND FORM's CARD OF 'laws.FnExactUndoAll'. -/
def fnExactUndoAllUptoCard : Claim7 := { stood := { row := fnExactUndoAllUptoRow, standIns := [], harness := (true, "92427ea38dfe190a0c6312ce215b86933efb03efcc7a7f386244833de115d681"), looks := false }, kinds := [], alts := [], laidByText := true, laidKinds := [.data, .pinned], laidTests := true, laidLooks := .later }
def FnExactUndoAllUptoCardSaid : Prop := Claim7.holds Tryz.pinned (.plain (OpenSpec.upto fnExactUndoAllSpec)) fnExactUndoAllUptoCard

/-- THE SECOND FORM's CARD OF 'laws.FnUndo'. -/
def fnUndoUptoCard : Claim7 := { stood := { row := fnUndoUptoRow, standIns := [], harness := (true, "92427ea38dfe190a0c6312ce215b86933efb03efcc7a7f386244833de115d681"), looks := false }, kinds := [], alts := [], laidByText := true, laidKinds := [.data, .pinned], laidTests := true, laidLooks := .later }
def FnUndoUptoCardSaid : Prop := Claim7.holds Tryz.pinned (.plain (OpenSpec.upto fnUndoSpec)) fnUndoUptoCard

/-- THE SECOND FORM's CARD OF 'laws.FnExactReplay'. -/
def fnExactReplayUptoCard : Claim7 := { stood := { row := fnExactReplayUptoRow, standIns := [], harness := (true, "92427ea38dfe190a0c6312ce215b86933efb03efcc7a7f386244833de115d681"), looks := false }, kinds := [], alts := [], laidByText := true, laidKinds := [.data, .pinned], laidTests := true, laidLooks := .later }
def FnExactReplayUptoCardSaid : Prop := Claim7.holds Tryz.pinned (.plain (OpenSpec.upto fnExactReplaySpec)) fnExactReplayUptoCard

/-- THE SECOND FORM's CARD OF 'laws.FnPress'. -/
def fnPressUptoCard : Claim7 := { stood := { row := fnPressUptoRow, standIns := [], harness := (true, "92427ea38dfe190a0c6312ce215b86933efb03efcc7a7f386244833de115d681"), looks := false }, kinds := [], alts := [], laidByText := true, laidKinds := [.data, .pinned], laidTests := true, laidLooks := .later }
def FnPressUptoCardSaid : Prop := Claim7.holds Tryz.pinned (.plain (OpenSpec.upto fnPressSpec)) fnPressUptoCard

/-- THE SECOND FORM's CARD OF 'laws.FnExactRedefine'. -/
def fnExactRedefineUptoCard : Claim7 := { stood := { row := fnExactRedefineUptoRow, standIns := [], harness := (true, "92427ea38dfe190a0c6312ce215b86933efb03efcc7a7f386244833de115d681"), looks := false }, kinds := [], alts := [], laidByText := true, laidKinds := [.data, .pinned], laidTests := true, laidLooks := .later }
def FnExactRedefineUptoCardSaid : Prop := Claim7.holds Tryz.pinned (.plain (OpenSpec.upto fnExactRedefineSpec)) fnExactRedefineUptoCard
end Rows
end Go.Proofs.YtpkahblajgaemaaGreatDoor
