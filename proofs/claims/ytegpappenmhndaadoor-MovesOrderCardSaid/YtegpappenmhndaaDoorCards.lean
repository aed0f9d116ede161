/-
  DERIVED. GIVEN WITH THE SEED: THE CARDS: each row of YtegpappenmhndaaDoorRows.lean that lists a variable, with what it lists TIED to the program's text (the seventh form; the later family's looks); each row that meets fmt, with fmt's text TOLD by the authors' own Lean function (tested against real Go, not proved from fmt's source: count such statements apart). THE CARD IS WHAT COUNTS. Prove the row's statement (the work); the ties are given (YtegpappenmhndaaDoorTie.lean); close each card by the builder's one call (the guide's Derived/Test/ToyasCard.lean, 'card_holds'). Laid BY PROGRAM, IN A SANDBOX (cutbox-door.mjs). By AI agents, Wed Nov 11 2026. No macro, syntax, notation, axiom, sorry.
-/
import Derived.Test.YtegpappenmhndaaDoorRows
import GoSem.ClaimSeven
namespace Go.Proofs.YtegpappenmhndaaDoor
namespace Rows

/-- THE TIED CARD OF 'accountinglaw33.MovesOne'. -/
def movesOneCard : Claim7 := { stood := { row := movesOneRow, standIns := [], harness := (true, "98db53edb2efb439c9ec8dc62e8b94103ef33d00be49343a9acd4b193d3e4474"), looks := false }, kinds := [], alts := [], laidByText := true, laidKinds := [.data], laidTests := true, laidLooks := .later }
def MovesOneCardSaid : Prop := Claim7.holds Tryd.pinned (.plain (OpenSpec.ofChange movesOneSpec)) movesOneCard

/-- THE TIED CARD OF 'accountinglaw33.MovesCheck'. -/
def movesCheckCard : Claim7 := { stood := { row := movesCheckRow, standIns := [], harness := (true, "98db53edb2efb439c9ec8dc62e8b94103ef33d00be49343a9acd4b193d3e4474"), looks := false }, kinds := [], alts := [], laidByText := true, laidKinds := [.data], laidTests := true, laidLooks := .later }
def MovesCheckCardSaid : Prop := Claim7.holds Tryd.pinned (.plain (OpenSpec.ofChange movesCheckSpec)) movesCheckCard

/-- THE TIED CARD OF 'accountinglaw33.MovesOrder'. -/
def movesOrderCard : Claim7 := { stood := { row := movesOrderRow, standIns := [], harness := (true, "98db53edb2efb439c9ec8dc62e8b94103ef33d00be49343a9acd4b193d3e4474"), looks := false }, kinds := [], alts := [], laidByText := true, laidKinds := [.data], laidTests := true, laidLooks := .later }
def MovesOrderCardSaid : Prop := Claim7.holds Tryd.pinned (.plain (OpenSpec.ofChange movesOrderSpec)) movesOrderCard

/-- THE TIED CARD OF 'accountinglaw33.MovesLevels'. -/
def movesLevelsCard : Claim7 := { stood := { row := movesLevelsRow, standIns := [], harness := (true, "98db53edb2efb439c9ec8dc62e8b94103ef33d00be49343a9acd4b193d3e4474"), looks := false }, kinds := [], alts := [], laidByText := true, laidKinds := [.data], laidTests := true, laidLooks := .later }
def MovesLevelsCardSaid : Prop := Claim7.holds Tryd.pinned (.plain (OpenSpec.ofChange movesLevelsSpec)) movesLevelsCard

/-- THE TIED CARD OF 'accountinglaw33.MovesLanded'. -/
def movesLandedCard : Claim7 := { stood := { row := movesLandedRow, standIns := [], harness := (true, "98db53edb2efb439c9ec8dc62e8b94103ef33d00be49343a9acd4b193d3e4474"), looks := false }, kinds := [], alts := [], laidByText := true, laidKinds := [.data], laidTests := true, laidLooks := .later }
def MovesLandedCardSaid : Prop := Claim7.holds Tryd.pinned (.plain (OpenSpec.ofChange movesLandedSpec)) movesLandedCard

/-- THE TIED CARD OF 'accountinglaw33.MovesWhole'. -/
def movesWholeCard : Claim7 := { stood := { row := movesWholeRow, standIns := [], harness := (true, "98db53edb2efb439c9ec8dc62e8b94103ef33d00be49343a9acd4b193d3e4474"), looks := false }, kinds := [], alts := [], laidByText := true, laidKinds := [.data], laidTests := true, laidLooks := .later }
def MovesWholeCardSaid : Prop := Claim7.holds Tryd.pinned (.plain (OpenSpec.ofChange movesWholeSpec)) movesWholeCard

/-- THE TIED CARD OF 'accountinglaw33.MovesSorted'. -/
def movesSortedCard : Claim7 := { stood := { row := movesSortedRow, standIns := [], harness := (true, "98db53edb2efb439c9ec8dc62e8b94103ef33d00be49343a9acd4b193d3e4474"), looks := false }, kinds := [], alts := [], laidByText := true, laidKinds := [.data], laidTests := true, laidLooks := .later }
def MovesSortedCardSaid : Prop := Claim7.holds Tryd.pinned (.plain (OpenSpec.ofChange movesSortedSpec)) movesSortedCard

/-- THE SECOND FORM's CARD OF 'accountinglaw33.MovesOne'. -/
def movesOneUptoCard : Claim7 := { stood := { row := movesOneUptoRow, standIns := [], harness := (true, "98db53edb2efb439c9ec8dc62e8b94103ef33d00be49343a9acd4b193d3e4474"), looks := false }, kinds := [], alts := [], laidByText := true, laidKinds := [.data], laidTests := true, laidLooks := .later }
def MovesOneUptoCardSaid : Prop := Claim7.holds Tryd.pinned (.plain (OpenSpec.upto movesOneSpec)) movesOneUptoCard

/-- THE SECOND FORM's CARD OF 'accountinglaw33.MovesCheck'. -/
def movesCheckUptoCard : Claim7 := { stood := { row := movesCheckUptoRow, standIns := [], harness := (true, "98db53edb2efb439c9ec8dc62e8b94103ef33d00be49343a9acd4b193d3e4474"), looks := false }, kinds := [], alts := [], laidByText := true, laidKinds := [.data], laidTests := true, laidLooks := .later }
def MovesCheckUptoCardSaid : Prop := Claim7.holds Tryd.pinned (.plain (OpenSpec.upto movesCheckSpec)) movesCheckUptoCard

/-- THE SECOND FORM's CARD OF 'accountinglaw33.MovesOrder'. -/
def movesOrderUptoCard : Claim7 := { stood := { row := movesOrderUptoRow, standIns := [], harness := (true, "98db53edb2efb439c9ec8dc62e8b94103ef33d00be49343a9acd4b193d3e4474"), looks := false }, kinds := [], alts := [], laidByText := true, laidKinds := [.data], laidTests := true, laidLooks := .later }
def MovesOrderUptoCardSaid : Prop := Claim7.holds Tryd.pinned (.plain (OpenSpec.upto movesOrderSpec)) movesOrderUptoCard

/-- THE SECOND FORM's CARD OF 'accountinglaw33.MovesLevels'. -/
def movesLevelsUptoCard : Claim7 := { stood := { row := movesLevelsUptoRow, standIns := [], harness := (true, "98db53edb2efb439c9ec8dc62e8b94103ef33d00be49343a9acd4b193d3e4474"), looks := false }, kinds := [], alts := [], laidByText := true, laidKinds := [.data], laidTests := true, laidLooks := .later }
def MovesLevelsUptoCardSaid : Prop := Claim7.holds Tryd.pinned (.plain (OpenSpec.upto movesLevelsSpec)) movesLevelsUptoCard

/-- THE SECOND FORM's CARD OF 'accountinglaw33.MovesLanded'. -/
def movesLandedUptoCard : Claim7 := { stood := { row := movesLandedUptoRow, standIns := [], harness := (true, "98db53edb2efb439c9ec8dc62e8b94103ef33d00be49343a9acd4b193d3e4474"), looks := false }, kinds := [], alts := [], laidByText := true, laidKinds := [.data], laidTests := true, laidLooks := .later }
def MovesLandedUptoCardSaid : Prop := Claim7.holds Tryd.pinned (.plain (OpenSpec.upto movesLandedSpec)) movesLandedUptoCard

/-- THE SECOND FORM's CARD OF 'accountinglaw33.MovesWhole'. -/
def movesWholeUptoCard : Claim7 := { stood := { row := movesWholeUptoRow, standIns := [], harness := (true, "98db53edb2efb439c9ec8dc62e8b94103ef33d00be49343a9acd4b193d3e4474"), looks := false }, kinds := [], alts := [], laidByText := true, laidKinds := [.data], laidTests := true, laidLooks := .later }
def MovesWholeUptoCardSaid : Prop := Claim7.holds Tryd.pinned (.plain (OpenSpec.upto movesWholeSpec)) movesWholeUptoCard

/-- THE SECOND FORM's CARD OF 'accountinglaw33.MovesSorted'. -/
def movesSortedUptoCard : Claim7 := { stood := { row := movesSortedUptoRow, standIns := [], harness := (true, "98db53edb2efb439c9ec8dc62e8b94103ef33d00be49343a9acd4b193d3e4474"), looks := false }, kinds := [], alts := [], laidByText := true, laidKinds := [.data], laidTests := true, laidLooks := .later }
def MovesSortedUptoCardSaid : Prop := Claim7.holds Tryd.pinned (.plain (OpenSpec.upto movesSortedSpec)) movesSortedUptoCard
end Rows
end Go.Proofs.YtegpappenmhndaaDoor
