/-
  DERIVED. GIVEN WITH THE SEED: THE CARDS: each row of YtmlklnimoknojaaGreatDoorRows.lean that lists a variable, with what it lists TIED to the program's text (the seventh form; the later family's looks); each row that meets fmt, with fmt's text TOLD by the authors' own Lean function (tested against real Go, not proved from fmt's source: count such statements apart). THE CARD IS WHAT COUNTS. Prove the row's statement (the work); the ties are given (YtmlklnimoknojaaGreatDoorTie.lean); close each card by the builder's one call (the guide's Derived/Test/ToyasCard.lean, 'card_holds'). Laid BY PROGRAM, IN A SANDBOX (cutbox-door.mjs). By AI agents, Wed Nov 11 2026. No macro, syntax, notation, axiom, sorry.
-/
import Derived.Test.YtmlklnimoknojaaGreatDoorRows
import GoSem.ClaimSeven
namespace Go.Proofs.YtmlklnimoknojaaGreatDoor
namespace Rows

/-- THE TIED CARD OF 'laws.FnTop'. -/
def fnTopCard : Claim7 := { stood := { row := fnTopRow, standIns := [], harness := (true, "c3a5dd369ff249344fa9c4be5583dee079a9ad0a5725d6022d544c97b3d8d3b1"), looks := false }, kinds := [], alts := [], laidByText := true, laidKinds := [.data, .pinned], laidTests := true, laidLooks := .later }
def FnTopCardSaid : Prop := Claim7.holds Tryz.pinned (.plain (OpenSpec.ofChange fnTopSpec)) fnTopCard

/-- THE TIED CARD OF 'laws.FnRedefine'. -/
def fnRedefineCard : Claim7 := { stood := { row := fnRedefineRow, standIns := [], harness := (true, "c3a5dd369ff249344fa9c4be5583dee079a9ad0a5725d6022d544c97b3d8d3b1"), looks := false }, kinds := [], alts := [], laidByText := true, laidKinds := [.data, .pinned], laidTests := true, laidLooks := .later }
def FnRedefineCardSaid : Prop := Claim7.holds Tryz.pinned (.plain (OpenSpec.ofChange fnRedefineSpec)) fnRedefineCard

/-- THE TIED CARD OF 'laws.FnFoldExpand'. -/
def fnFoldExpandCard : Claim7 := { stood := { row := fnFoldExpandRow, standIns := [], harness := (true, "c3a5dd369ff249344fa9c4be5583dee079a9ad0a5725d6022d544c97b3d8d3b1"), looks := false }, kinds := [], alts := [], laidByText := true, laidKinds := [.data, .pinned], laidTests := true, laidLooks := .later }
def FnFoldExpandCardSaid : Prop := Claim7.holds Tryz.pinned (.plain (OpenSpec.ofChange fnFoldExpandSpec)) fnFoldExpandCard

/-- THE TIED CARD OF 'laws.FnUndo'. -/
def fnUndoCard : Claim7 := { stood := { row := fnUndoRow, standIns := [], harness := (true, "c3a5dd369ff249344fa9c4be5583dee079a9ad0a5725d6022d544c97b3d8d3b1"), looks := false }, kinds := [], alts := [], laidByText := true, laidKinds := [.data, .pinned], laidTests := true, laidLooks := .later }
def FnUndoCardSaid : Prop := Claim7.holds Tryz.pinned (.plain (OpenSpec.ofChange fnUndoSpec)) fnUndoCard

/-- THE TIED CARD OF 'laws.FnPress'. -/
def fnPressCard : Claim7 := { stood := { row := fnPressRow, standIns := [], harness := (true, "c3a5dd369ff249344fa9c4be5583dee079a9ad0a5725d6022d544c97b3d8d3b1"), looks := false }, kinds := [], alts := [], laidByText := true, laidKinds := [.data, .pinned], laidTests := true, laidLooks := .later }
def FnPressCardSaid : Prop := Claim7.holds Tryz.pinned (.plain (OpenSpec.ofChange fnPressSpec)) fnPressCard

/-- THE TIED CARD OF 'laws.FnExactIsValidSession'. -/
def fnExactIsValidSessionCard : Claim7 := { stood := { row := fnExactIsValidSessionRow, standIns := [], harness := (true, "c3a5dd369ff249344fa9c4be5583dee079a9ad0a5725d6022d544c97b3d8d3b1"), looks := false }, kinds := [], alts := [], laidByText := true, laidKinds := [.data, .data, .data, .data, .pinned], laidTests := true, laidLooks := .later }
def FnExactIsValidSessionCardSaid : Prop := Claim7.holds Tryz.pinned (.plain (OpenSpec.ofChange fnExactIsValidSessionSpec)) fnExactIsValidSessionCard

/-- THE TIED CARD OF 'laws.FnExactFormatSession'. -/
def fnExactFormatSessionCard : Claim7 := { stood := { row := fnExactFormatSessionRow, standIns := [], harness := (true, "c3a5dd369ff249344fa9c4be5583dee079a9ad0a5725d6022d544c97b3d8d3b1"), looks := false }, kinds := [], alts := [], laidByText := true, laidKinds := [.data, .data, .data, .data, .pinned], laidTests := true, laidLooks := .later }
def FnExactFormatSessionCardSaid : Prop := Claim7.holds Tryz.pinned (.plain (OpenSpec.ofChange fnExactFormatSessionSpec)) fnExactFormatSessionCard

/-- THE SECOND FORM's CARD OF 'laws.FnTop'. -/
def fnTopUptoCard : Claim7 := { stood := { row := fnTopUptoRow, standIns := [], harness := (true, "c3a5dd369ff249344fa9c4be5583dee079a9ad0a5725d6022d544c97b3d8d3b1"), looks := false }, kinds := [], alts := [], laidByText := true, laidKinds := [.data, .pinned], laidTests := true, laidLooks := .later }
def FnTopUptoCardSaid : Prop := Claim7.holds Tryz.pinned (.plain (OpenSpec.upto fnTopSpec)) fnTopUptoCard

/-- THE SECOND FORM's CARD OF 'laws.FnRedefine'. -/
def fnRedefineUptoCard : Claim7 := { stood := { row := fnRedefineUptoRow, standIns := [], harness := (true, "c3a5dd369ff249344fa9c4be5583dee079a9ad0a5725d6022d544c97b3d8d3b1"), looks := false }, kinds := [], alts := [], laidByText := true, laidKinds := [.data, .pinned], laidTests := true, laidLooks := .later }
def FnRedefineUptoCardSaid : Prop := Claim7.holds Tryz.pinned (.plain (OpenSpec.upto fnRedefineSpec)) fnRedefineUptoCard

/-- THE SECOND FORM's CARD OF 'laws.FnFoldExpand'. -/
def fnFoldExpandUptoCard : Claim7 := { stood := { row := fnFoldExpandUptoRow, standIns := [], harness := (true, "c3a5dd369ff249344fa9c4be5583dee079a9ad0a5725d6022d544c97b3d8d3b1"), looks := false }, kinds := [], alts := [], laidByText := true, laidKinds := [.data, .pinned], laidTests := true, laidLooks := .later }
def FnFoldExpandUptoCardSaid : Prop := Claim7.holds Tryz.pinned (.plain (OpenSpec.upto fnFoldExpandSpec)) fnFoldExpandUptoCard

/-- THE SECOND FORM's CARD OF 'laws.FnUndo'. -/
def fnUndoUptoCard : Claim7 := { stood := { row := fnUndoUptoRow, standIns := [], harness := (true, "c3a5dd369ff249344fa9c4be5583dee079a9ad0a5725d6022d544c97b3d8d3b1"), looks := false }, kinds := [], alts := [], laidByText := true, laidKinds := [.data, .pinned], laidTests := true, laidLooks := .later }
def FnUndoUptoCardSaid : Prop := Claim7.holds Tryz.pinned (.plain (OpenSpec.upto fnUndoSpec)) fnUndoUptoCard

/-- THE SECOND FORM's CARD OF 'laws.FnPress'. -/
def fnPressUptoCard : Claim7 := { stood := { row := fnPressUptoRow, standIns := [], harness := (true, "c3a5dd369ff249344fa9c4be5583dee079a9ad0a5725d6022d544c97b3d8d3b1"), looks := false }, kinds := [], alts := [], laidByText := true, laidKinds := [.data, .pinned], laidTests := true, laidLooks := .later }
def FnPressUptoCardSaid : Prop := Claim7.holds Tryz.pinned (.plain (OpenSpec.upto fnPressSpec)) fnPressUptoCard

/-- THE SECOND FORM's CARD OF 'laws.FnExactIsValidSession'. -/
def fnExactIsValidSessionUptoCard : Claim7 := { stood := { row := fnExactIsValidSessionUptoRow, standIns := [], harness := (true, "c3a5dd369ff249344fa9c4be5583dee079a9ad0a5725d6022d544c97b3d8d3b1"), looks := false }, kinds := [], alts := [], laidByText := true, laidKinds := [.data, .data, .data, .data, .pinned], laidTests := true, laidLooks := .later }
def FnExactIsValidSessionUptoCardSaid : Prop := Claim7.holds Tryz.pinned (.plain (OpenSpec.upto fnExactIsValidSessionSpec)) fnExactIsValidSessionUptoCard

/-- THE SECOND FORM's CARD OF 'laws.FnExactFormatSession'. -/
def fnExactFormatSessionUptoCard : Claim7 := { stood := { row := fnExactFormatSessionUptoRow, standIns := [], harness := (true, "c3a5dd369ff249344fa9c4be5583dee079a9ad0a5725d6022d544c97b3d8d3b1"), looks := false }, kinds := [], alts := [], laidByText := true, laidKinds := [.data, .data, .data, .data, .pinned], laidTests := true, laidLooks := .later }
def FnExactFormatSessionUptoCardSaid : Prop := Claim7.holds Tryz.pinned (.plain (OpenSpec.upto fnExactFormatSessionSpec)) fnExactFormatSessionUptoCard
end Rows
end Go.Proofs.YtmlklnimoknojaaGreatDoor
