/-
  DERIVED. GIVEN WITH THE SEED: THE CARDS: each row of YtfoajpehmbojbaaGreatDoorRows.lean that lists a variable, with what it lists TIED to the program's text (the seventh form; the later family's looks); each row that meets fmt, with fmt's text TOLD by the authors' own Lean function (tested against real Go, not proved from fmt's source: count such statements apart). THE CARD IS WHAT COUNTS. Prove the row's statement (the work); the ties are given (YtfoajpehmbojbaaGreatDoorTie.lean); close each card by the builder's one call (the guide's Derived/Test/ToyasCard.lean, 'card_holds'). Laid BY PROGRAM, IN A SANDBOX (cutbox-door.mjs). By AI agents, Wed Nov 11 2026. No macro, syntax, notation, axiom, sorry.
-/
import Derived.Test.YtfoajpehmbojbaaGreatDoorRows
import GoSem.ClaimSeven
namespace Go.Proofs.YtfoajpehmbojbaaGreatDoor
namespace Rows

/-- THE TIED CARD OF 'laws.FnExactDelete'. -/
def fnExactDeleteCard : Claim7 := { stood := { row := fnExactDeleteRow, standIns := [], harness := (true, "1dce4de6af2d82f81ba4587a774cd4a6939919cedef0768a64b177d5b6c85517"), looks := false }, kinds := [], alts := [], laidByText := true, laidKinds := [.data, .pinned], laidTests := true, laidLooks := .later }
def FnExactDeleteCardSaid : Prop := Claim7.holds Tryz.pinned (.plain (OpenSpec.ofChange fnExactDeleteSpec)) fnExactDeleteCard

/-- THE TIED CARD OF 'laws.FnExactNewSession'. -/
def fnExactNewSessionCard : Claim7 := { stood := { row := fnExactNewSessionRow, standIns := [], harness := (true, "1dce4de6af2d82f81ba4587a774cd4a6939919cedef0768a64b177d5b6c85517"), looks := false }, kinds := [], alts := [], laidByText := true, laidKinds := [.data, .pinned], laidTests := true, laidLooks := .later }
def FnExactNewSessionCardSaid : Prop := Claim7.holds Tryz.pinned (.plain (OpenSpec.ofChange fnExactNewSessionSpec)) fnExactNewSessionCard

/-- THE TIED CARD OF 'laws.FnExactPushLayer'. -/
def fnExactPushLayerCard : Claim7 := { stood := { row := fnExactPushLayerRow, standIns := [], harness := (true, "1dce4de6af2d82f81ba4587a774cd4a6939919cedef0768a64b177d5b6c85517"), looks := false }, kinds := [], alts := [], laidByText := true, laidKinds := [.data, .pinned], laidTests := true, laidLooks := .later }
def FnExactPushLayerCardSaid : Prop := Claim7.holds Tryz.pinned (.plain (OpenSpec.ofChange fnExactPushLayerSpec)) fnExactPushLayerCard

/-- THE TIED CARD OF 'laws.FnExactSetEnabled'. -/
def fnExactSetEnabledCard : Claim7 := { stood := { row := fnExactSetEnabledRow, standIns := [], harness := (true, "1dce4de6af2d82f81ba4587a774cd4a6939919cedef0768a64b177d5b6c85517"), looks := false }, kinds := [], alts := [], laidByText := true, laidKinds := [.data, .pinned], laidTests := true, laidLooks := .later }
def FnExactSetEnabledCardSaid : Prop := Claim7.holds Tryz.pinned (.plain (OpenSpec.ofChange fnExactSetEnabledSpec)) fnExactSetEnabledCard

/-- THE SECOND FORM's CARD OF 'laws.FnExactDelete'. -/
def fnExactDeleteUptoCard : Claim7 := { stood := { row := fnExactDeleteUptoRow, standIns := [], harness := (true, "1dce4de6af2d82f81ba4587a774cd4a6939919cedef0768a64b177d5b6c85517"), looks := false }, kinds := [], alts := [], laidByText := true, laidKinds := [.data, .pinned], laidTests := true, laidLooks := .later }
def FnExactDeleteUptoCardSaid : Prop := Claim7.holds Tryz.pinned (.plain (OpenSpec.upto fnExactDeleteSpec)) fnExactDeleteUptoCard

/-- THE SECOND FORM's CARD OF 'laws.FnExactNewSession'. -/
def fnExactNewSessionUptoCard : Claim7 := { stood := { row := fnExactNewSessionUptoRow, standIns := [], harness := (true, "1dce4de6af2d82f81ba4587a774cd4a6939919cedef0768a64b177d5b6c85517"), looks := false }, kinds := [], alts := [], laidByText := true, laidKinds := [.data, .pinned], laidTests := true, laidLooks := .later }
def FnExactNewSessionUptoCardSaid : Prop := Claim7.holds Tryz.pinned (.plain (OpenSpec.upto fnExactNewSessionSpec)) fnExactNewSessionUptoCard

/-- THE SECOND FORM's CARD OF 'laws.FnExactPushLayer'. -/
def fnExactPushLayerUptoCard : Claim7 := { stood := { row := fnExactPushLayerUptoRow, standIns := [], harness := (true, "1dce4de6af2d82f81ba4587a774cd4a6939919cedef0768a64b177d5b6c85517"), looks := false }, kinds := [], alts := [], laidByText := true, laidKinds := [.data, .pinned], laidTests := true, laidLooks := .later }
def FnExactPushLayerUptoCardSaid : Prop := Claim7.holds Tryz.pinned (.plain (OpenSpec.upto fnExactPushLayerSpec)) fnExactPushLayerUptoCard

/-- THE SECOND FORM's CARD OF 'laws.FnExactSetEnabled'. -/
def fnExactSetEnabledUptoCard : Claim7 := { stood := { row := fnExactSetEnabledUptoRow, standIns := [], harness := (true, "1dce4de6af2d82f81ba4587a774cd4a6939919cedef0768a64b177d5b6c85517"), looks := false }, kinds := [], alts := [], laidByText := true, laidKinds := [.data, .pinned], laidTests := true, laidLooks := .later }
def FnExactSetEnabledUptoCardSaid : Prop := Claim7.holds Tryz.pinned (.plain (OpenSpec.upto fnExactSetEnabledSpec)) fnExactSetEnabledUptoCard
end Rows
end Go.Proofs.YtfoajpehmbojbaaGreatDoor
