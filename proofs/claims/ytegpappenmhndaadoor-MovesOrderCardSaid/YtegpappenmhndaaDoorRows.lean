/-
  NARROWER THAN 'FOR EVERY INPUT', by the rows' own cells (each row's printed sentence says how): MovesOne: laid · MovesCheck: laid · MovesOrder: laid · MovesLevels: laid · MovesLanded: laid · MovesWhole: laid · MovesSorted: laid.
  DERIVED. THE GIVEN ROWS OF THIS SEAT. 7 by the template 'for every input the law returns true; each argument reads behind the call as it read before'; 0 by the template 'total and deterministic' (their statements: YtegpappenmhndaaDoorTotals.lean).
  GIVEN WITH THE SEED: the statements are not yours to turn. If you find one false, say at which input.
  Laid BY PROGRAM, IN A SANDBOX (cutbox-rows.mjs): the forced cells as the released guide's own fill.sh prints them over the translation df6d1abd33492444… (all of the seat's roots in one cut). By AI agents, Wed Nov 11 2026. No macro, syntax, notation, axiom, sorry.
-/
import Derived.Test.YtegpappenmhndaaDoorChecked
import GoSem.Claim
import GoSem.ClaimJoined
import GoSem.ClaimMapViews
import Derived.JoinedTies
import Derived.KernelRfl
namespace Go.Proofs.YtegpappenmhndaaDoor
/- THE CELL 'sum', in the pinned program and in every row, IS THE sha256 OF THE DUMP (.gsa) THAT YtegpappenmhndaaDoorProg.lean LOADS. Nothing in Lean hashes anything: it is a label: what it is worth is what the hold of that sum in a sandbox is worth. -/
noncomputable def Tryd.pinned : Pinned := { name := "ytegpappenmhndaadoor", sum := "df6d1abd3349244444d7bc7b71dbcd17e24341192a14d3688eec37200d68924d", checked := Tryd.checked }
namespace Rows
def none {H : Type} : Left H := { results := [], args := [] }

/- WHAT THE LISTED PACKAGE-LEVEL VARIABLES READ AS WHEN THE CALL BEGINS. Each datum BY PROGRAM (the guide's laid-datum.mjs) off the statement by which the dump's own 'gosem.cut.vars' lays the variable. In a bare row this is a premise. The card (YtegpappenmhndaaDoorCards.lean) ties it to the program's text. -/
def laid_accounting_days_lengths {H : Type} : DataW H := .agg [.lit (.int .i64 31), .lit (.int .i64 28), .lit (.int .i64 31), .lit (.int .i64 30), .lit (.int .i64 31), .lit (.int .i64 30), .lit (.int .i64 31), .lit (.int .i64 31), .lit (.int .i64 30), .lit (.int .i64 31), .lit (.int .i64 30), .lit (.int .i64 31)]

/-- 'accountinglaw33.MovesOne': WHATEVER THE INPUT: true; the input reads as it did. -/
def movesOneSpec : ChangeSpec := { name := "movesOne", fn := fun _ => fun
  | [d] => { results := [.lit (.bool true)], args := [d] }
  | _ => none }
def movesOneRow : OpenClaim := { program := "ytegpappenmhndaadoor", sum := "df6d1abd3349244444d7bc7b71dbcd17e24341192a14d3688eec37200d68924d", func := "accounting/accountinglaw33.MovesOne", spec := "movesOne", unfollowed := true, recurses := true, named := ["accounting/days.lengths"], plainKeys := false, apart := false, laid := [("accounting/days.lengths", laid_accounting_days_lengths)] }
def MovesOneSaid : Prop := movesOneRow.holds Tryd.pinned (OpenSpec.ofChange movesOneSpec)

/-- ITS FALSE NEIGHBOUR: 'it returns false'. Refute it at one input. -/
def movesOneWrong : ChangeSpec := { name := "movesOne", fn := fun _ => fun
  | [d] => { results := [.lit (.bool false)], args := [d] }
  | _ => none }
def MovesOneWrongFalsely : Prop := movesOneRow.holds Tryd.pinned (OpenSpec.ofChange movesOneWrong)

/-- 'accountinglaw33.MovesCheck': WHATEVER THE INPUT: true; the input reads as it did. -/
def movesCheckSpec : ChangeSpec := { name := "movesCheck", fn := fun _ => fun
  | [d] => { results := [.lit (.bool true)], args := [d] }
  | _ => none }
def movesCheckRow : OpenClaim := { program := "ytegpappenmhndaadoor", sum := "df6d1abd3349244444d7bc7b71dbcd17e24341192a14d3688eec37200d68924d", func := "accounting/accountinglaw33.MovesCheck", spec := "movesCheck", unfollowed := true, recurses := true, named := ["accounting/days.lengths"], plainKeys := false, apart := false, laid := [("accounting/days.lengths", laid_accounting_days_lengths)] }
def MovesCheckSaid : Prop := movesCheckRow.holds Tryd.pinned (OpenSpec.ofChange movesCheckSpec)

/-- ITS FALSE NEIGHBOUR: 'it returns false'. Refute it at one input. -/
def movesCheckWrong : ChangeSpec := { name := "movesCheck", fn := fun _ => fun
  | [d] => { results := [.lit (.bool false)], args := [d] }
  | _ => none }
def MovesCheckWrongFalsely : Prop := movesCheckRow.holds Tryd.pinned (OpenSpec.ofChange movesCheckWrong)

/-- 'accountinglaw33.MovesOrder': WHATEVER THE INPUT: true; the input reads as it did. -/
def movesOrderSpec : ChangeSpec := { name := "movesOrder", fn := fun _ => fun
  | [d] => { results := [.lit (.bool true)], args := [d] }
  | _ => none }
def movesOrderRow : OpenClaim := { program := "ytegpappenmhndaadoor", sum := "df6d1abd3349244444d7bc7b71dbcd17e24341192a14d3688eec37200d68924d", func := "accounting/accountinglaw33.MovesOrder", spec := "movesOrder", unfollowed := true, recurses := true, named := ["accounting/days.lengths"], plainKeys := false, apart := false, laid := [("accounting/days.lengths", laid_accounting_days_lengths)] }
def MovesOrderSaid : Prop := movesOrderRow.holds Tryd.pinned (OpenSpec.ofChange movesOrderSpec)

/-- ITS FALSE NEIGHBOUR: 'it returns false'. Refute it at one input. -/
def movesOrderWrong : ChangeSpec := { name := "movesOrder", fn := fun _ => fun
  | [d] => { results := [.lit (.bool false)], args := [d] }
  | _ => none }
def MovesOrderWrongFalsely : Prop := movesOrderRow.holds Tryd.pinned (OpenSpec.ofChange movesOrderWrong)

/-- 'accountinglaw33.MovesLevels': WHATEVER THE INPUT: true; the input reads as it did. -/
def movesLevelsSpec : ChangeSpec := { name := "movesLevels", fn := fun _ => fun
  | [d] => { results := [.lit (.bool true)], args := [d] }
  | _ => none }
def movesLevelsRow : OpenClaim := { program := "ytegpappenmhndaadoor", sum := "df6d1abd3349244444d7bc7b71dbcd17e24341192a14d3688eec37200d68924d", func := "accounting/accountinglaw33.MovesLevels", spec := "movesLevels", unfollowed := true, recurses := true, named := ["accounting/days.lengths"], plainKeys := false, apart := false, laid := [("accounting/days.lengths", laid_accounting_days_lengths)] }
def MovesLevelsSaid : Prop := movesLevelsRow.holds Tryd.pinned (OpenSpec.ofChange movesLevelsSpec)

/-- ITS FALSE NEIGHBOUR: 'it returns false'. Refute it at one input. -/
def movesLevelsWrong : ChangeSpec := { name := "movesLevels", fn := fun _ => fun
  | [d] => { results := [.lit (.bool false)], args := [d] }
  | _ => none }
def MovesLevelsWrongFalsely : Prop := movesLevelsRow.holds Tryd.pinned (OpenSpec.ofChange movesLevelsWrong)

/-- 'accountinglaw33.MovesLanded': WHATEVER THE INPUT: true; the input reads as it did. -/
def movesLandedSpec : ChangeSpec := { name := "movesLanded", fn := fun _ => fun
  | [d1, d2] => { results := [.lit (.bool true)], args := [d1, d2] }
  | _ => none }
def movesLandedRow : OpenClaim := { program := "ytegpappenmhndaadoor", sum := "df6d1abd3349244444d7bc7b71dbcd17e24341192a14d3688eec37200d68924d", func := "accounting/accountinglaw33.MovesLanded", spec := "movesLanded", unfollowed := true, recurses := true, named := ["accounting/days.lengths"], plainKeys := false, apart := false, laid := [("accounting/days.lengths", laid_accounting_days_lengths)] }
def MovesLandedSaid : Prop := movesLandedRow.holds Tryd.pinned (OpenSpec.ofChange movesLandedSpec)

/-- ITS FALSE NEIGHBOUR: 'it returns false'. Refute it at one input. -/
def movesLandedWrong : ChangeSpec := { name := "movesLanded", fn := fun _ => fun
  | [d1, d2] => { results := [.lit (.bool false)], args := [d1, d2] }
  | _ => none }
def MovesLandedWrongFalsely : Prop := movesLandedRow.holds Tryd.pinned (OpenSpec.ofChange movesLandedWrong)

/-- 'accountinglaw33.MovesWhole': WHATEVER THE INPUT: true; the input reads as it did. -/
def movesWholeSpec : ChangeSpec := { name := "movesWhole", fn := fun _ => fun
  | [d1, d2] => { results := [.lit (.bool true)], args := [d1, d2] }
  | _ => none }
def movesWholeRow : OpenClaim := { program := "ytegpappenmhndaadoor", sum := "df6d1abd3349244444d7bc7b71dbcd17e24341192a14d3688eec37200d68924d", func := "accounting/accountinglaw33.MovesWhole", spec := "movesWhole", unfollowed := true, recurses := true, named := ["accounting/days.lengths"], plainKeys := false, apart := false, laid := [("accounting/days.lengths", laid_accounting_days_lengths)] }
def MovesWholeSaid : Prop := movesWholeRow.holds Tryd.pinned (OpenSpec.ofChange movesWholeSpec)

/-- ITS FALSE NEIGHBOUR: 'it returns false'. Refute it at one input. -/
def movesWholeWrong : ChangeSpec := { name := "movesWhole", fn := fun _ => fun
  | [d1, d2] => { results := [.lit (.bool false)], args := [d1, d2] }
  | _ => none }
def MovesWholeWrongFalsely : Prop := movesWholeRow.holds Tryd.pinned (OpenSpec.ofChange movesWholeWrong)

/-- 'accountinglaw33.MovesSorted': WHATEVER THE INPUT: true; the input reads as it did. -/
def movesSortedSpec : ChangeSpec := { name := "movesSorted", fn := fun _ => fun
  | [d] => { results := [.lit (.bool true)], args := [d] }
  | _ => none }
def movesSortedRow : OpenClaim := { program := "ytegpappenmhndaadoor", sum := "df6d1abd3349244444d7bc7b71dbcd17e24341192a14d3688eec37200d68924d", func := "accounting/accountinglaw33.MovesSorted", spec := "movesSorted", unfollowed := true, recurses := true, named := ["accounting/days.lengths"], plainKeys := false, apart := false, laid := [("accounting/days.lengths", laid_accounting_days_lengths)] }
def MovesSortedSaid : Prop := movesSortedRow.holds Tryd.pinned (OpenSpec.ofChange movesSortedSpec)

/-- ITS FALSE NEIGHBOUR: 'it returns false'. Refute it at one input. -/
def movesSortedWrong : ChangeSpec := { name := "movesSorted", fn := fun _ => fun
  | [d] => { results := [.lit (.bool false)], args := [d] }
  | _ => none }
def MovesSortedWrongFalsely : Prop := movesSortedRow.holds Tryd.pinned (OpenSpec.ofChange movesSortedWrong)

/- THE SECOND FORM. 'bulk': how many values and letters a reading holds, each counted each time it is reached (what is shared counts as often as it is met; a slice's spare places count too). A statement '..UptoSaid' is the law's where the arguments, and the package variables that the reading takes, are together of bulk at most 1048576: NARROWER than '..Said'. Prove '..Said' where nothing that the law and all that it calls make is longer than what came in: it says more and counts as full. Else prove '..UptoSaid'. A law counts once. -/
mutual
def uptoBulk {H : Type} : DataW H → Nat
  | .lit (.string bytes) => bytes.length + 1
  | .lit _ => 1
  | .nil => 1
  | .ptr d => uptoBulk d + 1
  | .slice elems spare => uptoBulkAll elems + uptoBulkAll spare + 1
  | .agg parts => uptoBulkAll parts + 1
  | .iface _ d => uptoBulk d + 1
  | .map entries => uptoBulkEntries entries + 1
  | .held _ => 1
def uptoBulkAll {H : Type} : List (DataW H) → Nat
  | [] => 0
  | d :: r => uptoBulk d + uptoBulkAll r
def uptoBulkEntries {H : Type} : List (Lit × DataW H) → Nat
  | [] => 0
  | x :: r => uptoBulkEntry x + uptoBulkEntries r
def uptoBulkEntry {H : Type} : Lit × DataW H → Nat
  | (.string bytes, d) => bytes.length + uptoBulk d + 1
  | (_, d) => uptoBulk d + 1
 end
def uptoSmall : (H : Type) → List (DataW H) → Bool := fun _ ds => decide (uptoBulkAll ds ≤ 1048576)
def OpenSpec.upto (s : _root_.Go.ChangeSpec) : _root_.Go.OpenSpec := { _root_.Go.OpenSpec.ofChange s with cond := some uptoSmall }

/-- 'accountinglaw33.MovesOne', WHERE WHAT IT READS IS OF BULK AT MOST 1048576: true; the input reads as it did. -/
def movesOneUptoRow : OpenClaim := { program := "ytegpappenmhndaadoor", sum := "df6d1abd3349244444d7bc7b71dbcd17e24341192a14d3688eec37200d68924d", func := "accounting/accountinglaw33.MovesOne", spec := "movesOne", unfollowed := true, recurses := true, named := ["accounting/days.lengths"], plainKeys := false, apart := false, laid := [("accounting/days.lengths", laid_accounting_days_lengths)], narrowed := true }
def MovesOneUptoSaid : Prop := movesOneUptoRow.holds Tryd.pinned (OpenSpec.upto movesOneSpec)

/-- 'accountinglaw33.MovesCheck', WHERE WHAT IT READS IS OF BULK AT MOST 1048576: true; the input reads as it did. -/
def movesCheckUptoRow : OpenClaim := { program := "ytegpappenmhndaadoor", sum := "df6d1abd3349244444d7bc7b71dbcd17e24341192a14d3688eec37200d68924d", func := "accounting/accountinglaw33.MovesCheck", spec := "movesCheck", unfollowed := true, recurses := true, named := ["accounting/days.lengths"], plainKeys := false, apart := false, laid := [("accounting/days.lengths", laid_accounting_days_lengths)], narrowed := true }
def MovesCheckUptoSaid : Prop := movesCheckUptoRow.holds Tryd.pinned (OpenSpec.upto movesCheckSpec)

/-- 'accountinglaw33.MovesOrder', WHERE WHAT IT READS IS OF BULK AT MOST 1048576: true; the input reads as it did. -/
def movesOrderUptoRow : OpenClaim := { program := "ytegpappenmhndaadoor", sum := "df6d1abd3349244444d7bc7b71dbcd17e24341192a14d3688eec37200d68924d", func := "accounting/accountinglaw33.MovesOrder", spec := "movesOrder", unfollowed := true, recurses := true, named := ["accounting/days.lengths"], plainKeys := false, apart := false, laid := [("accounting/days.lengths", laid_accounting_days_lengths)], narrowed := true }
def MovesOrderUptoSaid : Prop := movesOrderUptoRow.holds Tryd.pinned (OpenSpec.upto movesOrderSpec)

/-- 'accountinglaw33.MovesLevels', WHERE WHAT IT READS IS OF BULK AT MOST 1048576: true; the input reads as it did. -/
def movesLevelsUptoRow : OpenClaim := { program := "ytegpappenmhndaadoor", sum := "df6d1abd3349244444d7bc7b71dbcd17e24341192a14d3688eec37200d68924d", func := "accounting/accountinglaw33.MovesLevels", spec := "movesLevels", unfollowed := true, recurses := true, named := ["accounting/days.lengths"], plainKeys := false, apart := false, laid := [("accounting/days.lengths", laid_accounting_days_lengths)], narrowed := true }
def MovesLevelsUptoSaid : Prop := movesLevelsUptoRow.holds Tryd.pinned (OpenSpec.upto movesLevelsSpec)

/-- 'accountinglaw33.MovesLanded', WHERE WHAT IT READS IS OF BULK AT MOST 1048576: true; the input reads as it did. -/
def movesLandedUptoRow : OpenClaim := { program := "ytegpappenmhndaadoor", sum := "df6d1abd3349244444d7bc7b71dbcd17e24341192a14d3688eec37200d68924d", func := "accounting/accountinglaw33.MovesLanded", spec := "movesLanded", unfollowed := true, recurses := true, named := ["accounting/days.lengths"], plainKeys := false, apart := false, laid := [("accounting/days.lengths", laid_accounting_days_lengths)], narrowed := true }
def MovesLandedUptoSaid : Prop := movesLandedUptoRow.holds Tryd.pinned (OpenSpec.upto movesLandedSpec)

/-- 'accountinglaw33.MovesWhole', WHERE WHAT IT READS IS OF BULK AT MOST 1048576: true; the input reads as it did. -/
def movesWholeUptoRow : OpenClaim := { program := "ytegpappenmhndaadoor", sum := "df6d1abd3349244444d7bc7b71dbcd17e24341192a14d3688eec37200d68924d", func := "accounting/accountinglaw33.MovesWhole", spec := "movesWhole", unfollowed := true, recurses := true, named := ["accounting/days.lengths"], plainKeys := false, apart := false, laid := [("accounting/days.lengths", laid_accounting_days_lengths)], narrowed := true }
def MovesWholeUptoSaid : Prop := movesWholeUptoRow.holds Tryd.pinned (OpenSpec.upto movesWholeSpec)

/-- 'accountinglaw33.MovesSorted', WHERE WHAT IT READS IS OF BULK AT MOST 1048576: true; the input reads as it did. -/
def movesSortedUptoRow : OpenClaim := { program := "ytegpappenmhndaadoor", sum := "df6d1abd3349244444d7bc7b71dbcd17e24341192a14d3688eec37200d68924d", func := "accounting/accountinglaw33.MovesSorted", spec := "movesSorted", unfollowed := true, recurses := true, named := ["accounting/days.lengths"], plainKeys := false, apart := false, laid := [("accounting/days.lengths", laid_accounting_days_lengths)], narrowed := true }
def MovesSortedUptoSaid : Prop := movesSortedUptoRow.holds Tryd.pinned (OpenSpec.upto movesSortedSpec)

end Rows
end Go.Proofs.YtegpappenmhndaaDoor
