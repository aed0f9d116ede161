/-
  DERIVED. GIVEN WITH THE SEED: THE CARDS: each row of YtjeecehhcajfaaaDoorRows.lean that lists a variable, with what it lists TIED to the program's text (the seventh form; the later family's looks); each row that meets fmt, with fmt's text TOLD by the authors' own Lean function (tested against real Go, not proved from fmt's source: count such statements apart). THE CARD IS WHAT COUNTS. Prove the row's statement (the work); the ties are given (YtjeecehhcajfaaaDoorTie.lean); close each card by the builder's one call (the guide's Derived/Test/ToyasCard.lean, 'card_holds'). Laid BY PROGRAM, IN A SANDBOX (cutbox-door.mjs). By AI agents, Wed Nov 11 2026. No macro, syntax, notation, axiom, sorry.
-/
import Derived.Test.YtjeecehhcajfaaaDoorRows
import GoSem.ClaimSeven
namespace Go.Proofs.YtjeecehhcajfaaaDoor
namespace Rows

/-- THE TIED CARD OF 'accountinglaw12.EntryLine'. -/
def entryLineCard : Claim7 := { stood := { row := entryLineRow, standIns := [], harness := (true, "be3c0a6bf7d168cfecf7312c4a458ffdf88559f71113c4694bf92cbd7a7be984"), looks := false }, kinds := [], alts := [], laidByText := true, laidKinds := [.data], laidTests := true, laidLooks := .later }
def EntryLineCardSaid : Prop := Claim7.holds Tryd.pinned (.plain (OpenSpec.ofChange entryLineSpec)) entryLineCard

/-- THE TIED CARD OF 'accountinglaw12.EntryCheck'. -/
def entryCheckCard : Claim7 := { stood := { row := entryCheckRow, standIns := [], harness := (true, "be3c0a6bf7d168cfecf7312c4a458ffdf88559f71113c4694bf92cbd7a7be984"), looks := false }, kinds := [], alts := [], laidByText := true, laidKinds := [.data], laidTests := true, laidLooks := .later }
def EntryCheckCardSaid : Prop := Claim7.holds Tryd.pinned (.plain (OpenSpec.ofChange entryCheckSpec)) entryCheckCard

/-- THE TIED CARD OF 'accountinglaw12.EntrySums'. -/
def entrySumsCard : Claim7 := { stood := { row := entrySumsRow, standIns := [], harness := (true, "be3c0a6bf7d168cfecf7312c4a458ffdf88559f71113c4694bf92cbd7a7be984"), looks := false }, kinds := [], alts := [], laidByText := true, laidKinds := [.data], laidTests := true, laidLooks := .later }
def EntrySumsCardSaid : Prop := Claim7.holds Tryd.pinned (.plain (OpenSpec.ofChange entrySumsSpec)) entrySumsCard

/-- THE TIED CARD OF 'accountinglaw12.EntryMerge'. -/
def entryMergeCard : Claim7 := { stood := { row := entryMergeRow, standIns := [], harness := (true, "be3c0a6bf7d168cfecf7312c4a458ffdf88559f71113c4694bf92cbd7a7be984"), looks := false }, kinds := [], alts := [], laidByText := true, laidKinds := [.data], laidTests := true, laidLooks := .later }
def EntryMergeCardSaid : Prop := Claim7.holds Tryd.pinned (.plain (OpenSpec.ofChange entryMergeSpec)) entryMergeCard

/-- THE TIED CARD OF 'accountinglaw12.EntryReverse'. -/
def entryReverseCard : Claim7 := { stood := { row := entryReverseRow, standIns := [], harness := (true, "be3c0a6bf7d168cfecf7312c4a458ffdf88559f71113c4694bf92cbd7a7be984"), looks := false }, kinds := [], alts := [], laidByText := true, laidKinds := [.data], laidTests := true, laidLooks := .later }
def EntryReverseCardSaid : Prop := Claim7.holds Tryd.pinned (.plain (OpenSpec.ofChange entryReverseSpec)) entryReverseCard

/-- THE TIED CARD OF 'accountinglaw12.EntrySame'. -/
def entrySameCard : Claim7 := { stood := { row := entrySameRow, standIns := [], harness := (true, "be3c0a6bf7d168cfecf7312c4a458ffdf88559f71113c4694bf92cbd7a7be984"), looks := false }, kinds := [], alts := [], laidByText := true, laidKinds := [.data], laidTests := true, laidLooks := .later }
def EntrySameCardSaid : Prop := Claim7.holds Tryd.pinned (.plain (OpenSpec.ofChange entrySameSpec)) entrySameCard

/-- THE TIED CARD OF 'accountinglaw12.EntryConserve'. -/
def entryConserveCard : Claim7 := { stood := { row := entryConserveRow, standIns := [], harness := (true, "be3c0a6bf7d168cfecf7312c4a458ffdf88559f71113c4694bf92cbd7a7be984"), looks := false }, kinds := [], alts := [], laidByText := true, laidKinds := [.data], laidTests := true, laidLooks := .later }
def EntryConserveCardSaid : Prop := Claim7.holds Tryd.pinned (.plain (OpenSpec.ofChange entryConserveSpec)) entryConserveCard

/-- THE TIED CARD OF 'accountinglaw12.EntryTwice'. -/
def entryTwiceCard : Claim7 := { stood := { row := entryTwiceRow, standIns := [], harness := (true, "be3c0a6bf7d168cfecf7312c4a458ffdf88559f71113c4694bf92cbd7a7be984"), looks := false }, kinds := [], alts := [], laidByText := true, laidKinds := [.data], laidTests := true, laidLooks := .later }
def EntryTwiceCardSaid : Prop := Claim7.holds Tryd.pinned (.plain (OpenSpec.ofChange entryTwiceSpec)) entryTwiceCard

/-- THE TIED CARD OF 'accountinglaw12.EntryOrder'. -/
def entryOrderCard : Claim7 := { stood := { row := entryOrderRow, standIns := [], harness := (true, "be3c0a6bf7d168cfecf7312c4a458ffdf88559f71113c4694bf92cbd7a7be984"), looks := false }, kinds := [], alts := [], laidByText := true, laidKinds := [.data], laidTests := true, laidLooks := .later }
def EntryOrderCardSaid : Prop := Claim7.holds Tryd.pinned (.plain (OpenSpec.ofChange entryOrderSpec)) entryOrderCard

/-- THE SECOND FORM's CARD OF 'accountinglaw12.EntryLine'. -/
def entryLineUptoCard : Claim7 := { stood := { row := entryLineUptoRow, standIns := [], harness := (true, "be3c0a6bf7d168cfecf7312c4a458ffdf88559f71113c4694bf92cbd7a7be984"), looks := false }, kinds := [], alts := [], laidByText := true, laidKinds := [.data], laidTests := true, laidLooks := .later }
def EntryLineUptoCardSaid : Prop := Claim7.holds Tryd.pinned (.plain (OpenSpec.upto entryLineSpec)) entryLineUptoCard

/-- THE SECOND FORM's CARD OF 'accountinglaw12.EntryCheck'. -/
def entryCheckUptoCard : Claim7 := { stood := { row := entryCheckUptoRow, standIns := [], harness := (true, "be3c0a6bf7d168cfecf7312c4a458ffdf88559f71113c4694bf92cbd7a7be984"), looks := false }, kinds := [], alts := [], laidByText := true, laidKinds := [.data], laidTests := true, laidLooks := .later }
def EntryCheckUptoCardSaid : Prop := Claim7.holds Tryd.pinned (.plain (OpenSpec.upto entryCheckSpec)) entryCheckUptoCard

/-- THE SECOND FORM's CARD OF 'accountinglaw12.EntrySums'. -/
def entrySumsUptoCard : Claim7 := { stood := { row := entrySumsUptoRow, standIns := [], harness := (true, "be3c0a6bf7d168cfecf7312c4a458ffdf88559f71113c4694bf92cbd7a7be984"), looks := false }, kinds := [], alts := [], laidByText := true, laidKinds := [.data], laidTests := true, laidLooks := .later }
def EntrySumsUptoCardSaid : Prop := Claim7.holds Tryd.pinned (.plain (OpenSpec.upto entrySumsSpec)) entrySumsUptoCard

/-- THE SECOND FORM's CARD OF 'accountinglaw12.EntryMerge'. -/
def entryMergeUptoCard : Claim7 := { stood := { row := entryMergeUptoRow, standIns := [], harness := (true, "be3c0a6bf7d168cfecf7312c4a458ffdf88559f71113c4694bf92cbd7a7be984"), looks := false }, kinds := [], alts := [], laidByText := true, laidKinds := [.data], laidTests := true, laidLooks := .later }
def EntryMergeUptoCardSaid : Prop := Claim7.holds Tryd.pinned (.plain (OpenSpec.upto entryMergeSpec)) entryMergeUptoCard

/-- THE SECOND FORM's CARD OF 'accountinglaw12.EntryReverse'. -/
def entryReverseUptoCard : Claim7 := { stood := { row := entryReverseUptoRow, standIns := [], harness := (true, "be3c0a6bf7d168cfecf7312c4a458ffdf88559f71113c4694bf92cbd7a7be984"), looks := false }, kinds := [], alts := [], laidByText := true, laidKinds := [.data], laidTests := true, laidLooks := .later }
def EntryReverseUptoCardSaid : Prop := Claim7.holds Tryd.pinned (.plain (OpenSpec.upto entryReverseSpec)) entryReverseUptoCard

/-- THE SECOND FORM's CARD OF 'accountinglaw12.EntrySame'. -/
def entrySameUptoCard : Claim7 := { stood := { row := entrySameUptoRow, standIns := [], harness := (true, "be3c0a6bf7d168cfecf7312c4a458ffdf88559f71113c4694bf92cbd7a7be984"), looks := false }, kinds := [], alts := [], laidByText := true, laidKinds := [.data], laidTests := true, laidLooks := .later }
def EntrySameUptoCardSaid : Prop := Claim7.holds Tryd.pinned (.plain (OpenSpec.upto entrySameSpec)) entrySameUptoCard

/-- THE SECOND FORM's CARD OF 'accountinglaw12.EntryConserve'. -/
def entryConserveUptoCard : Claim7 := { stood := { row := entryConserveUptoRow, standIns := [], harness := (true, "be3c0a6bf7d168cfecf7312c4a458ffdf88559f71113c4694bf92cbd7a7be984"), looks := false }, kinds := [], alts := [], laidByText := true, laidKinds := [.data], laidTests := true, laidLooks := .later }
def EntryConserveUptoCardSaid : Prop := Claim7.holds Tryd.pinned (.plain (OpenSpec.upto entryConserveSpec)) entryConserveUptoCard

/-- THE SECOND FORM's CARD OF 'accountinglaw12.EntryTwice'. -/
def entryTwiceUptoCard : Claim7 := { stood := { row := entryTwiceUptoRow, standIns := [], harness := (true, "be3c0a6bf7d168cfecf7312c4a458ffdf88559f71113c4694bf92cbd7a7be984"), looks := false }, kinds := [], alts := [], laidByText := true, laidKinds := [.data], laidTests := true, laidLooks := .later }
def EntryTwiceUptoCardSaid : Prop := Claim7.holds Tryd.pinned (.plain (OpenSpec.upto entryTwiceSpec)) entryTwiceUptoCard

/-- THE SECOND FORM's CARD OF 'accountinglaw12.EntryOrder'. -/
def entryOrderUptoCard : Claim7 := { stood := { row := entryOrderUptoRow, standIns := [], harness := (true, "be3c0a6bf7d168cfecf7312c4a458ffdf88559f71113c4694bf92cbd7a7be984"), looks := false }, kinds := [], alts := [], laidByText := true, laidKinds := [.data], laidTests := true, laidLooks := .later }
def EntryOrderUptoCardSaid : Prop := Claim7.holds Tryd.pinned (.plain (OpenSpec.upto entryOrderSpec)) entryOrderUptoCard
end Rows
end Go.Proofs.YtjeecehhcajfaaaDoor
