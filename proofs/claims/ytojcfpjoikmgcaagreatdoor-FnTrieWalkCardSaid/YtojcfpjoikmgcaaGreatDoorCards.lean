/-
  DERIVED. GIVEN WITH THE SEED: THE CARDS: each row of YtojcfpjoikmgcaaGreatDoorRows.lean that lists a variable, with what it lists TIED to the program's text (the seventh form; the later family's looks); each row that meets fmt, with fmt's text TOLD by the authors' own Lean function (tested against real Go, not proved from fmt's source: count such statements apart). THE CARD IS WHAT COUNTS. Prove the row's statement (the work); the ties are given (YtojcfpjoikmgcaaGreatDoorTie.lean); close each card by the builder's one call (the guide's Derived/Test/ToyasCard.lean, 'card_holds'). Laid BY PROGRAM, IN A SANDBOX (cutbox-door.mjs). By AI agents, Wed Nov 11 2026. No macro, syntax, notation, axiom, sorry.
-/
import Derived.Test.YtojcfpjoikmgcaaGreatDoorRows
import GoSem.ClaimSeven
namespace Go.Proofs.YtojcfpjoikmgcaaGreatDoor
namespace Rows

/-- THE TIED CARD OF 'laws.FnTrieRoundTrip'. -/
def fnTrieRoundTripCard : Claim7 := { stood := { row := fnTrieRoundTripRow, standIns := [], harness := (true, "13c83ea6e3b3d6522d1c5b1b10359bac17fb0f69ec39dd2a46d6432757427681"), looks := false }, kinds := [], alts := [], laidByText := true, laidKinds := [.data, .pinned], laidTests := true, laidLooks := .later }
def FnTrieRoundTripCardSaid : Prop := Claim7.holds Tryz.pinned (.plain (OpenSpec.ofChange fnTrieRoundTripSpec)) fnTrieRoundTripCard

/-- THE TIED CARD OF 'laws.FnExactLookupTrie'. -/
def fnExactLookupTrieCard : Claim7 := { stood := { row := fnExactLookupTrieRow, standIns := [], harness := (true, "13c83ea6e3b3d6522d1c5b1b10359bac17fb0f69ec39dd2a46d6432757427681"), looks := false }, kinds := [], alts := [], laidByText := true, laidKinds := [.data, .pinned], laidTests := true, laidLooks := .later }
def FnExactLookupTrieCardSaid : Prop := Claim7.holds Tryz.pinned (.plain (OpenSpec.ofChange fnExactLookupTrieSpec)) fnExactLookupTrieCard

/-- THE TIED CARD OF 'laws.FnExactContinuations'. -/
def fnExactContinuationsCard : Claim7 := { stood := { row := fnExactContinuationsRow, standIns := [], harness := (true, "13c83ea6e3b3d6522d1c5b1b10359bac17fb0f69ec39dd2a46d6432757427681"), looks := false }, kinds := [], alts := [], laidByText := true, laidKinds := [.data, .pinned], laidTests := true, laidLooks := .later }
def FnExactContinuationsCardSaid : Prop := Claim7.holds Tryz.pinned (.plain (OpenSpec.ofChange fnExactContinuationsSpec)) fnExactContinuationsCard

/-- THE TIED CARD OF 'laws.FnExactLongestPrefix'. -/
def fnExactLongestPrefixCard : Claim7 := { stood := { row := fnExactLongestPrefixRow, standIns := [], harness := (true, "13c83ea6e3b3d6522d1c5b1b10359bac17fb0f69ec39dd2a46d6432757427681"), looks := false }, kinds := [], alts := [], laidByText := true, laidKinds := [.data, .pinned], laidTests := true, laidLooks := .later }
def FnExactLongestPrefixCardSaid : Prop := Claim7.holds Tryz.pinned (.plain (OpenSpec.ofChange fnExactLongestPrefixSpec)) fnExactLongestPrefixCard

/-- THE TIED CARD OF 'laws.FnExactWalkTrie'. -/
def fnExactWalkTrieCard : Claim7 := { stood := { row := fnExactWalkTrieRow, standIns := [], harness := (true, "13c83ea6e3b3d6522d1c5b1b10359bac17fb0f69ec39dd2a46d6432757427681"), looks := false }, kinds := [], alts := [], laidByText := true, laidKinds := [.data, .pinned], laidTests := true, laidLooks := .later }
def FnExactWalkTrieCardSaid : Prop := Claim7.holds Tryz.pinned (.plain (OpenSpec.ofChange fnExactWalkTrieSpec)) fnExactWalkTrieCard

/-- THE TIED CARD OF 'laws.FnExactTrieEntries'. -/
def fnExactTrieEntriesCard : Claim7 := { stood := { row := fnExactTrieEntriesRow, standIns := [], harness := (true, "13c83ea6e3b3d6522d1c5b1b10359bac17fb0f69ec39dd2a46d6432757427681"), looks := false }, kinds := [], alts := [], laidByText := true, laidKinds := [.data, .pinned], laidTests := true, laidLooks := .later }
def FnExactTrieEntriesCardSaid : Prop := Claim7.holds Tryz.pinned (.plain (OpenSpec.ofChange fnExactTrieEntriesSpec)) fnExactTrieEntriesCard

/-- THE TIED CARD OF 'laws.FnTrieWalk'. -/
def fnTrieWalkCard : Claim7 := { stood := { row := fnTrieWalkRow, standIns := [], harness := (true, "13c83ea6e3b3d6522d1c5b1b10359bac17fb0f69ec39dd2a46d6432757427681"), looks := false }, kinds := [], alts := [], laidByText := true, laidKinds := [.data, .pinned], laidTests := true, laidLooks := .later }
def FnTrieWalkCardSaid : Prop := Claim7.holds Tryz.pinned (.plain (OpenSpec.ofChange fnTrieWalkSpec)) fnTrieWalkCard

/-- THE TIED CARD OF 'laws.FnTrieLookup'. -/
def fnTrieLookupCard : Claim7 := { stood := { row := fnTrieLookupRow, standIns := [], harness := (true, "13c83ea6e3b3d6522d1c5b1b10359bac17fb0f69ec39dd2a46d6432757427681"), looks := false }, kinds := [], alts := [], laidByText := true, laidKinds := [.data, .pinned], laidTests := true, laidLooks := .later }
def FnTrieLookupCardSaid : Prop := Claim7.holds Tryz.pinned (.plain (OpenSpec.ofChange fnTrieLookupSpec)) fnTrieLookupCard

/-- THE TIED CARD OF 'laws.FnStackShadowed'. -/
def fnStackShadowedCard : Claim7 := { stood := { row := fnStackShadowedRow, standIns := [], harness := (true, "13c83ea6e3b3d6522d1c5b1b10359bac17fb0f69ec39dd2a46d6432757427681"), looks := false }, kinds := [], alts := [], laidByText := true, laidKinds := [.data, .pinned], laidTests := true, laidLooks := .later }
def FnStackShadowedCardSaid : Prop := Claim7.holds Tryz.pinned (.plain (OpenSpec.ofChange fnStackShadowedSpec)) fnStackShadowedCard

/-- THE TIED CARD OF 'laws.FnExactDeleteTrie'. -/
def fnExactDeleteTrieCard : Claim7 := { stood := { row := fnExactDeleteTrieRow, standIns := [], harness := (true, "13c83ea6e3b3d6522d1c5b1b10359bac17fb0f69ec39dd2a46d6432757427681"), looks := false }, kinds := [], alts := [], laidByText := true, laidKinds := [.data, .pinned], laidTests := true, laidLooks := .later }
def FnExactDeleteTrieCardSaid : Prop := Claim7.holds Tryz.pinned (.plain (OpenSpec.ofChange fnExactDeleteTrieSpec)) fnExactDeleteTrieCard

/-- THE TIED CARD OF 'laws.FnExactInsertTrie'. -/
def fnExactInsertTrieCard : Claim7 := { stood := { row := fnExactInsertTrieRow, standIns := [], harness := (true, "13c83ea6e3b3d6522d1c5b1b10359bac17fb0f69ec39dd2a46d6432757427681"), looks := false }, kinds := [], alts := [], laidByText := true, laidKinds := [.data, .pinned], laidTests := true, laidLooks := .later }
def FnExactInsertTrieCardSaid : Prop := Claim7.holds Tryz.pinned (.plain (OpenSpec.ofChange fnExactInsertTrieSpec)) fnExactInsertTrieCard

/-- THE SECOND FORM's CARD OF 'laws.FnTrieRoundTrip'. -/
def fnTrieRoundTripUptoCard : Claim7 := { stood := { row := fnTrieRoundTripUptoRow, standIns := [], harness := (true, "13c83ea6e3b3d6522d1c5b1b10359bac17fb0f69ec39dd2a46d6432757427681"), looks := false }, kinds := [], alts := [], laidByText := true, laidKinds := [.data, .pinned], laidTests := true, laidLooks := .later }
def FnTrieRoundTripUptoCardSaid : Prop := Claim7.holds Tryz.pinned (.plain (OpenSpec.upto fnTrieRoundTripSpec)) fnTrieRoundTripUptoCard

/-- THE SECOND FORM's CARD OF 'laws.FnExactLookupTrie'. -/
def fnExactLookupTrieUptoCard : Claim7 := { stood := { row := fnExactLookupTrieUptoRow, standIns := [], harness := (true, "13c83ea6e3b3d6522d1c5b1b10359bac17fb0f69ec39dd2a46d6432757427681"), looks := false }, kinds := [], alts := [], laidByText := true, laidKinds := [.data, .pinned], laidTests := true, laidLooks := .later }
def FnExactLookupTrieUptoCardSaid : Prop := Claim7.holds Tryz.pinned (.plain (OpenSpec.upto fnExactLookupTrieSpec)) fnExactLookupTrieUptoCard

/-- THE SECOND FORM's CARD OF 'laws.FnExactContinuations'. -/
def fnExactContinuationsUptoCard : Claim7 := { stood := { row := fnExactContinuationsUptoRow, standIns := [], harness := (true, "13c83ea6e3b3d6522d1c5b1b10359bac17fb0f69ec39dd2a46d6432757427681"), looks := false }, kinds := [], alts := [], laidByText := true, laidKinds := [.data, .pinned], laidTests := true, laidLooks := .later }
def FnExactContinuationsUptoCardSaid : Prop := Claim7.holds Tryz.pinned (.plain (OpenSpec.upto fnExactContinuationsSpec)) fnExactContinuationsUptoCard

/-- THE SECOND FORM's CARD OF 'laws.FnExactLongestPrefix'. -/
def fnExactLongestPrefixUptoCard : Claim7 := { stood := { row := fnExactLongestPrefixUptoRow, standIns := [], harness := (true, "13c83ea6e3b3d6522d1c5b1b10359bac17fb0f69ec39dd2a46d6432757427681"), looks := false }, kinds := [], alts := [], laidByText := true, laidKinds := [.data, .pinned], laidTests := true, laidLooks := .later }
def FnExactLongestPrefixUptoCardSaid : Prop := Claim7.holds Tryz.pinned (.plain (OpenSpec.upto fnExactLongestPrefixSpec)) fnExactLongestPrefixUptoCard

/-- THE SECOND FORM's CARD OF 'laws.FnExactWalkTrie'. -/
def fnExactWalkTrieUptoCard : Claim7 := { stood := { row := fnExactWalkTrieUptoRow, standIns := [], harness := (true, "13c83ea6e3b3d6522d1c5b1b10359bac17fb0f69ec39dd2a46d6432757427681"), looks := false }, kinds := [], alts := [], laidByText := true, laidKinds := [.data, .pinned], laidTests := true, laidLooks := .later }
def FnExactWalkTrieUptoCardSaid : Prop := Claim7.holds Tryz.pinned (.plain (OpenSpec.upto fnExactWalkTrieSpec)) fnExactWalkTrieUptoCard

/-- THE SECOND FORM's CARD OF 'laws.FnExactTrieEntries'. -/
def fnExactTrieEntriesUptoCard : Claim7 := { stood := { row := fnExactTrieEntriesUptoRow, standIns := [], harness := (true, "13c83ea6e3b3d6522d1c5b1b10359bac17fb0f69ec39dd2a46d6432757427681"), looks := false }, kinds := [], alts := [], laidByText := true, laidKinds := [.data, .pinned], laidTests := true, laidLooks := .later }
def FnExactTrieEntriesUptoCardSaid : Prop := Claim7.holds Tryz.pinned (.plain (OpenSpec.upto fnExactTrieEntriesSpec)) fnExactTrieEntriesUptoCard

/-- THE SECOND FORM's CARD OF 'laws.FnTrieWalk'. -/
def fnTrieWalkUptoCard : Claim7 := { stood := { row := fnTrieWalkUptoRow, standIns := [], harness := (true, "13c83ea6e3b3d6522d1c5b1b10359bac17fb0f69ec39dd2a46d6432757427681"), looks := false }, kinds := [], alts := [], laidByText := true, laidKinds := [.data, .pinned], laidTests := true, laidLooks := .later }
def FnTrieWalkUptoCardSaid : Prop := Claim7.holds Tryz.pinned (.plain (OpenSpec.upto fnTrieWalkSpec)) fnTrieWalkUptoCard

/-- THE SECOND FORM's CARD OF 'laws.FnTrieLookup'. -/
def fnTrieLookupUptoCard : Claim7 := { stood := { row := fnTrieLookupUptoRow, standIns := [], harness := (true, "13c83ea6e3b3d6522d1c5b1b10359bac17fb0f69ec39dd2a46d6432757427681"), looks := false }, kinds := [], alts := [], laidByText := true, laidKinds := [.data, .pinned], laidTests := true, laidLooks := .later }
def FnTrieLookupUptoCardSaid : Prop := Claim7.holds Tryz.pinned (.plain (OpenSpec.upto fnTrieLookupSpec)) fnTrieLookupUptoCard

/-- THE SECOND FORM's CARD OF 'laws.FnStackShadowed'. -/
def fnStackShadowedUptoCard : Claim7 := { stood := { row := fnStackShadowedUptoRow, standIns := [], harness := (true, "13c83ea6e3b3d6522d1c5b1b10359bac17fb0f69ec39dd2a46d6432757427681"), looks := false }, kinds := [], alts := [], laidByText := true, laidKinds := [.data, .pinned], laidTests := true, laidLooks := .later }
def FnStackShadowedUptoCardSaid : Prop := Claim7.holds Tryz.pinned (.plain (OpenSpec.upto fnStackShadowedSpec)) fnStackShadowedUptoCard

/-- THE SECOND FORM's CARD OF 'laws.FnExactDeleteTrie'. -/
def fnExactDeleteTrieUptoCard : Claim7 := { stood := { row := fnExactDeleteTrieUptoRow, standIns := [], harness := (true, "13c83ea6e3b3d6522d1c5b1b10359bac17fb0f69ec39dd2a46d6432757427681"), looks := false }, kinds := [], alts := [], laidByText := true, laidKinds := [.data, .pinned], laidTests := true, laidLooks := .later }
def FnExactDeleteTrieUptoCardSaid : Prop := Claim7.holds Tryz.pinned (.plain (OpenSpec.upto fnExactDeleteTrieSpec)) fnExactDeleteTrieUptoCard

/-- THE SECOND FORM's CARD OF 'laws.FnExactInsertTrie'. -/
def fnExactInsertTrieUptoCard : Claim7 := { stood := { row := fnExactInsertTrieUptoRow, standIns := [], harness := (true, "13c83ea6e3b3d6522d1c5b1b10359bac17fb0f69ec39dd2a46d6432757427681"), looks := false }, kinds := [], alts := [], laidByText := true, laidKinds := [.data, .pinned], laidTests := true, laidLooks := .later }
def FnExactInsertTrieUptoCardSaid : Prop := Claim7.holds Tryz.pinned (.plain (OpenSpec.upto fnExactInsertTrieSpec)) fnExactInsertTrieUptoCard
end Rows
end Go.Proofs.YtojcfpjoikmgcaaGreatDoor
