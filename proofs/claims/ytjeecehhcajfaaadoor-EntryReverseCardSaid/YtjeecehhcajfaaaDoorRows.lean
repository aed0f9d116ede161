/-
  NARROWER THAN 'FOR EVERY INPUT', by the rows' own cells (each row's printed sentence says how): EntryLine: laid · EntryCheck: laid · EntrySums: laid · EntryMerge: laid · EntryReverse: laid · EntrySame: laid · EntryConserve: laid · EntryTwice: laid · EntryOrder: laid.
  DERIVED. THE GIVEN ROWS OF THIS SEAT. 9 by the template 'for every input the law returns true; each argument reads behind the call as it read before'; 0 by the template 'total and deterministic' (their statements: YtjeecehhcajfaaaDoorTotals.lean).
  GIVEN WITH THE SEED: the statements are not yours to turn. If you find one false, say at which input.
  Laid BY PROGRAM, IN A SANDBOX (cutbox-rows.mjs): the forced cells as the released guide's own fill.sh prints them over the translation 8fcdb8fd585a89a6… (all of the seat's roots in one cut). By AI agents, Wed Nov 11 2026. No macro, syntax, notation, axiom, sorry.
-/
import Derived.Test.YtjeecehhcajfaaaDoorChecked
import GoSem.Claim
import GoSem.ClaimJoined
import GoSem.ClaimMapViews
import Derived.JoinedTies
import Derived.KernelRfl
namespace Go.Proofs.YtjeecehhcajfaaaDoor
/- THE CELL 'sum', in the pinned program and in every row, IS THE sha256 OF THE DUMP (.gsa) THAT YtjeecehhcajfaaaDoorProg.lean LOADS. Nothing in Lean hashes anything: it is a label: what it is worth is what the hold of that sum in a sandbox is worth. -/
noncomputable def Tryd.pinned : Pinned := { name := "ytjeecehhcajfaaadoor", sum := "8fcdb8fd585a89a680bdc3a71a01ebae51aea20a5bd071a6487873a883cb10b8", checked := Tryd.checked }
namespace Rows
def none {H : Type} : Left H := { results := [], args := [] }

/- WHAT THE LISTED PACKAGE-LEVEL VARIABLES READ AS WHEN THE CALL BEGINS. Each datum BY PROGRAM (the guide's laid-datum.mjs) off the statement by which the dump's own 'gosem.cut.vars' lays the variable. In a bare row this is a premise. The card (YtjeecehhcajfaaaDoorCards.lean) ties it to the program's text. -/
def laid_accounting_days_lengths {H : Type} : DataW H := .agg [.lit (.int .i64 31), .lit (.int .i64 28), .lit (.int .i64 31), .lit (.int .i64 30), .lit (.int .i64 31), .lit (.int .i64 30), .lit (.int .i64 31), .lit (.int .i64 31), .lit (.int .i64 30), .lit (.int .i64 31), .lit (.int .i64 30), .lit (.int .i64 31)]

/-- 'accountinglaw12.EntryLine': WHATEVER THE INPUT: true; the input reads as it did. -/
def entryLineSpec : ChangeSpec := { name := "entryLine", fn := fun _ => fun
  | [d] => { results := [.lit (.bool true)], args := [d] }
  | _ => none }
def entryLineRow : OpenClaim := { program := "ytjeecehhcajfaaadoor", sum := "8fcdb8fd585a89a680bdc3a71a01ebae51aea20a5bd071a6487873a883cb10b8", func := "accounting/accountinglaw12.EntryLine", spec := "entryLine", inPlace := ["math/bits.Add64"], unfollowed := true, recurses := true, named := ["accounting/days.lengths"], plainKeys := false, apart := false, laid := [("accounting/days.lengths", laid_accounting_days_lengths)] }
def EntryLineSaid : Prop := entryLineRow.holds Tryd.pinned (OpenSpec.ofChange entryLineSpec)

/-- ITS FALSE NEIGHBOUR: 'it returns false'. Refute it at one input. -/
def entryLineWrong : ChangeSpec := { name := "entryLine", fn := fun _ => fun
  | [d] => { results := [.lit (.bool false)], args := [d] }
  | _ => none }
def EntryLineWrongFalsely : Prop := entryLineRow.holds Tryd.pinned (OpenSpec.ofChange entryLineWrong)

/-- 'accountinglaw12.EntryCheck': WHATEVER THE INPUT: true; the input reads as it did. -/
def entryCheckSpec : ChangeSpec := { name := "entryCheck", fn := fun _ => fun
  | [d] => { results := [.lit (.bool true)], args := [d] }
  | _ => none }
def entryCheckRow : OpenClaim := { program := "ytjeecehhcajfaaadoor", sum := "8fcdb8fd585a89a680bdc3a71a01ebae51aea20a5bd071a6487873a883cb10b8", func := "accounting/accountinglaw12.EntryCheck", spec := "entryCheck", inPlace := ["math/bits.Add64"], unfollowed := true, recurses := true, named := ["accounting/days.lengths"], plainKeys := false, apart := false, laid := [("accounting/days.lengths", laid_accounting_days_lengths)] }
def EntryCheckSaid : Prop := entryCheckRow.holds Tryd.pinned (OpenSpec.ofChange entryCheckSpec)

/-- ITS FALSE NEIGHBOUR: 'it returns false'. Refute it at one input. -/
def entryCheckWrong : ChangeSpec := { name := "entryCheck", fn := fun _ => fun
  | [d] => { results := [.lit (.bool false)], args := [d] }
  | _ => none }
def EntryCheckWrongFalsely : Prop := entryCheckRow.holds Tryd.pinned (OpenSpec.ofChange entryCheckWrong)

/-- 'accountinglaw12.EntrySums': WHATEVER THE INPUT: true; the input reads as it did. -/
def entrySumsSpec : ChangeSpec := { name := "entrySums", fn := fun _ => fun
  | [d] => { results := [.lit (.bool true)], args := [d] }
  | _ => none }
def entrySumsRow : OpenClaim := { program := "ytjeecehhcajfaaadoor", sum := "8fcdb8fd585a89a680bdc3a71a01ebae51aea20a5bd071a6487873a883cb10b8", func := "accounting/accountinglaw12.EntrySums", spec := "entrySums", inPlace := ["math/bits.Add64"], unfollowed := true, recurses := true, named := ["accounting/days.lengths"], plainKeys := false, apart := false, laid := [("accounting/days.lengths", laid_accounting_days_lengths)] }
def EntrySumsSaid : Prop := entrySumsRow.holds Tryd.pinned (OpenSpec.ofChange entrySumsSpec)

/-- ITS FALSE NEIGHBOUR: 'it returns false'. Refute it at one input. -/
def entrySumsWrong : ChangeSpec := { name := "entrySums", fn := fun _ => fun
  | [d] => { results := [.lit (.bool false)], args := [d] }
  | _ => none }
def EntrySumsWrongFalsely : Prop := entrySumsRow.holds Tryd.pinned (OpenSpec.ofChange entrySumsWrong)

/-- 'accountinglaw12.EntryMerge': WHATEVER THE INPUT: true; the input reads as it did. -/
def entryMergeSpec : ChangeSpec := { name := "entryMerge", fn := fun _ => fun
  | [d] => { results := [.lit (.bool true)], args := [d] }
  | _ => none }
def entryMergeRow : OpenClaim := { program := "ytjeecehhcajfaaadoor", sum := "8fcdb8fd585a89a680bdc3a71a01ebae51aea20a5bd071a6487873a883cb10b8", func := "accounting/accountinglaw12.EntryMerge", spec := "entryMerge", inPlace := ["math/bits.Add64"], unfollowed := true, recurses := true, named := ["accounting/days.lengths"], plainKeys := false, apart := false, laid := [("accounting/days.lengths", laid_accounting_days_lengths)] }
def EntryMergeSaid : Prop := entryMergeRow.holds Tryd.pinned (OpenSpec.ofChange entryMergeSpec)

/-- ITS FALSE NEIGHBOUR: 'it returns false'. Refute it at one input. -/
def entryMergeWrong : ChangeSpec := { name := "entryMerge", fn := fun _ => fun
  | [d] => { results := [.lit (.bool false)], args := [d] }
  | _ => none }
def EntryMergeWrongFalsely : Prop := entryMergeRow.holds Tryd.pinned (OpenSpec.ofChange entryMergeWrong)

/-- 'accountinglaw12.EntryReverse': WHATEVER THE INPUT: true; the input reads as it did. -/
def entryReverseSpec : ChangeSpec := { name := "entryReverse", fn := fun _ => fun
  | [d1, d2] => { results := [.lit (.bool true)], args := [d1, d2] }
  | _ => none }
def entryReverseRow : OpenClaim := { program := "ytjeecehhcajfaaadoor", sum := "8fcdb8fd585a89a680bdc3a71a01ebae51aea20a5bd071a6487873a883cb10b8", func := "accounting/accountinglaw12.EntryReverse", spec := "entryReverse", inPlace := ["math/bits.Add64"], unfollowed := true, recurses := true, named := ["accounting/days.lengths"], plainKeys := false, apart := false, laid := [("accounting/days.lengths", laid_accounting_days_lengths)] }
def EntryReverseSaid : Prop := entryReverseRow.holds Tryd.pinned (OpenSpec.ofChange entryReverseSpec)

/-- ITS FALSE NEIGHBOUR: 'it returns false'. Refute it at one input. -/
def entryReverseWrong : ChangeSpec := { name := "entryReverse", fn := fun _ => fun
  | [d1, d2] => { results := [.lit (.bool false)], args := [d1, d2] }
  | _ => none }
def EntryReverseWrongFalsely : Prop := entryReverseRow.holds Tryd.pinned (OpenSpec.ofChange entryReverseWrong)

/-- 'accountinglaw12.EntrySame': WHATEVER THE INPUT: true; the input reads as it did. -/
def entrySameSpec : ChangeSpec := { name := "entrySame", fn := fun _ => fun
  | [d1, d2] => { results := [.lit (.bool true)], args := [d1, d2] }
  | _ => none }
def entrySameRow : OpenClaim := { program := "ytjeecehhcajfaaadoor", sum := "8fcdb8fd585a89a680bdc3a71a01ebae51aea20a5bd071a6487873a883cb10b8", func := "accounting/accountinglaw12.EntrySame", spec := "entrySame", inPlace := ["math/bits.Add64"], unfollowed := true, recurses := true, named := ["accounting/days.lengths"], plainKeys := false, apart := false, laid := [("accounting/days.lengths", laid_accounting_days_lengths)] }
def EntrySameSaid : Prop := entrySameRow.holds Tryd.pinned (OpenSpec.ofChange entrySameSpec)

/-- ITS FALSE NEIGHBOUR: 'it returns false'. Refute it at one input. -/
def entrySameWrong : ChangeSpec := { name := "entrySame", fn := fun _ => fun
  | [d1, d2] => { results := [.lit (.bool false)], args := [d1, d2] }
  | _ => none }
def EntrySameWrongFalsely : Prop := entrySameRow.holds Tryd.pinned (OpenSpec.ofChange entrySameWrong)

/-- 'accountinglaw12.EntryConserve': WHATEVER THE INPUT: true; the input reads as it did. -/
def entryConserveSpec : ChangeSpec := { name := "entryConserve", fn := fun _ => fun
  | [d] => { results := [.lit (.bool true)], args := [d] }
  | _ => none }
def entryConserveRow : OpenClaim := { program := "ytjeecehhcajfaaadoor", sum := "8fcdb8fd585a89a680bdc3a71a01ebae51aea20a5bd071a6487873a883cb10b8", func := "accounting/accountinglaw12.EntryConserve", spec := "entryConserve", inPlace := ["math/bits.Add64"], unfollowed := true, recurses := true, named := ["accounting/days.lengths"], plainKeys := false, apart := false, laid := [("accounting/days.lengths", laid_accounting_days_lengths)] }
def EntryConserveSaid : Prop := entryConserveRow.holds Tryd.pinned (OpenSpec.ofChange entryConserveSpec)

/-- ITS FALSE NEIGHBOUR: 'it returns false'. Refute it at one input. -/
def entryConserveWrong : ChangeSpec := { name := "entryConserve", fn := fun _ => fun
  | [d] => { results := [.lit (.bool false)], args := [d] }
  | _ => none }
def EntryConserveWrongFalsely : Prop := entryConserveRow.holds Tryd.pinned (OpenSpec.ofChange entryConserveWrong)

/-- 'accountinglaw12.EntryTwice': WHATEVER THE INPUT: true; the input reads as it did. -/
def entryTwiceSpec : ChangeSpec := { name := "entryTwice", fn := fun _ => fun
  | [d1, d2] => { results := [.lit (.bool true)], args := [d1, d2] }
  | _ => none }
def entryTwiceRow : OpenClaim := { program := "ytjeecehhcajfaaadoor", sum := "8fcdb8fd585a89a680bdc3a71a01ebae51aea20a5bd071a6487873a883cb10b8", func := "accounting/accountinglaw12.EntryTwice", spec := "entryTwice", inPlace := ["math/bits.Add64"], unfollowed := true, recurses := true, named := ["accounting/days.lengths"], plainKeys := false, apart := false, laid := [("accounting/days.lengths", laid_accounting_days_lengths)] }
def EntryTwiceSaid : Prop := entryTwiceRow.holds Tryd.pinned (OpenSpec.ofChange entryTwiceSpec)

/-- ITS FALSE NEIGHBOUR: 'it returns false'. Refute it at one input. -/
def entryTwiceWrong : ChangeSpec := { name := "entryTwice", fn := fun _ => fun
  | [d1, d2] => { results := [.lit (.bool false)], args := [d1, d2] }
  | _ => none }
def EntryTwiceWrongFalsely : Prop := entryTwiceRow.holds Tryd.pinned (OpenSpec.ofChange entryTwiceWrong)

/-- 'accountinglaw12.EntryOrder': WHATEVER THE INPUT: true; the input reads as it did. -/
def entryOrderSpec : ChangeSpec := { name := "entryOrder", fn := fun _ => fun
  | [d] => { results := [.lit (.bool true)], args := [d] }
  | _ => none }
def entryOrderRow : OpenClaim := { program := "ytjeecehhcajfaaadoor", sum := "8fcdb8fd585a89a680bdc3a71a01ebae51aea20a5bd071a6487873a883cb10b8", func := "accounting/accountinglaw12.EntryOrder", spec := "entryOrder", inPlace := ["math/bits.Add64"], unfollowed := true, recurses := true, named := ["accounting/days.lengths"], plainKeys := false, apart := false, laid := [("accounting/days.lengths", laid_accounting_days_lengths)] }
def EntryOrderSaid : Prop := entryOrderRow.holds Tryd.pinned (OpenSpec.ofChange entryOrderSpec)

/-- ITS FALSE NEIGHBOUR: 'it returns false'. Refute it at one input. -/
def entryOrderWrong : ChangeSpec := { name := "entryOrder", fn := fun _ => fun
  | [d] => { results := [.lit (.bool false)], args := [d] }
  | _ => none }
def EntryOrderWrongFalsely : Prop := entryOrderRow.holds Tryd.pinned (OpenSpec.ofChange entryOrderWrong)

/- THE SECOND FORM. 'bulk': how many values and letters a reading holds, each counted each time it is reached (what is shared counts as often as it is met; a slice's spare places count too). A statement '..UptoSaid' is the law's where the arguments, and the package variables that the reading takes, are together of bulk at most 1048576: NARROWER than '..Said'. Prove '..Said' where nothing that the law and all that it calls make is longer than what came in: it says more and counts as full. Else prove '..UptoSaid'. A law counts once. -/
mutual
def uptoBulk {H : Type} : DataW H → Nat
  | .lit (.string bytes) => bytes.length + 1
  | .lit _ => 1
  | .nil => 1
  | .ptr d => uptoBulk d + 1
  | .slice elems spare => uptoBulkAll elems + uptoBulkAll spare + 1
  | .agg parts => uptoBulkAll parts + 1
  | .iface _ d => uptoBulk d + 1
  | .map entries => uptoBulkEntries entries + 1
  | .held _ => 1
def uptoBulkAll {H : Type} : List (DataW H) → Nat
  | [] => 0
  | d :: r => uptoBulk d + uptoBulkAll r
def uptoBulkEntries {H : Type} : List (Lit × DataW H) → Nat
  | [] => 0
  | x :: r => uptoBulkEntry x + uptoBulkEntries r
def uptoBulkEntry {H : Type} : Lit × DataW H → Nat
  | (.string bytes, d) => bytes.length + uptoBulk d + 1
  | (_, d) => uptoBulk d + 1
 end
def uptoSmall : (H : Type) → List (DataW H) → Bool := fun _ ds => decide (uptoBulkAll ds ≤ 1048576)
def OpenSpec.upto (s : _root_.Go.ChangeSpec) : _root_.Go.OpenSpec := { _root_.Go.OpenSpec.ofChange s with cond := some uptoSmall }

/-- 'accountinglaw12.EntryLine', WHERE WHAT IT READS IS OF BULK AT MOST 1048576: true; the input reads as it did. -/
def entryLineUptoRow : OpenClaim := { program := "ytjeecehhcajfaaadoor", sum := "8fcdb8fd585a89a680bdc3a71a01ebae51aea20a5bd071a6487873a883cb10b8", func := "accounting/accountinglaw12.EntryLine", spec := "entryLine", inPlace := ["math/bits.Add64"], unfollowed := true, recurses := true, named := ["accounting/days.lengths"], plainKeys := false, apart := false, laid := [("accounting/days.lengths", laid_accounting_days_lengths)], narrowed := true }
def EntryLineUptoSaid : Prop := entryLineUptoRow.holds Tryd.pinned (OpenSpec.upto entryLineSpec)

/-- 'accountinglaw12.EntryCheck', WHERE WHAT IT READS IS OF BULK AT MOST 1048576: true; the input reads as it did. -/
def entryCheckUptoRow : OpenClaim := { program := "ytjeecehhcajfaaadoor", sum := "8fcdb8fd585a89a680bdc3a71a01ebae51aea20a5bd071a6487873a883cb10b8", func := "accounting/accountinglaw12.EntryCheck", spec := "entryCheck", inPlace := ["math/bits.Add64"], unfollowed := true, recurses := true, named := ["accounting/days.lengths"], plainKeys := false, apart := false, laid := [("accounting/days.lengths", laid_accounting_days_lengths)], narrowed := true }
def EntryCheckUptoSaid : Prop := entryCheckUptoRow.holds Tryd.pinned (OpenSpec.upto entryCheckSpec)

/-- 'accountinglaw12.EntrySums', WHERE WHAT IT READS IS OF BULK AT MOST 1048576: true; the input reads as it did. -/
def entrySumsUptoRow : OpenClaim := { program := "ytjeecehhcajfaaadoor", sum := "8fcdb8fd585a89a680bdc3a71a01ebae51aea20a5bd071a6487873a883cb10b8", func := "accounting/accountinglaw12.EntrySums", spec := "entrySums", inPlace := ["math/bits.Add64"], unfollowed := true, recurses := true, named := ["accounting/days.lengths"], plainKeys := false, apart := false, laid := [("accounting/days.lengths", laid_accounting_days_lengths)], narrowed := true }
def EntrySumsUptoSaid : Prop := entrySumsUptoRow.holds Tryd.pinned (OpenSpec.upto entrySumsSpec)

/-- 'accountinglaw12.EntryMerge', WHERE WHAT IT READS IS OF BULK AT MOST 1048576: true; the input reads as it did. -/
def entryMergeUptoRow : OpenClaim := { program := "ytjeecehhcajfaaadoor", sum := "8fcdb8fd585a89a680bdc3a71a01ebae51aea20a5bd071a6487873a883cb10b8", func := "accounting/accountinglaw12.EntryMerge", spec := "entryMerge", inPlace := ["math/bits.Add64"], unfollowed := true, recurses := true, named := ["accounting/days.lengths"], plainKeys := false, apart := false, laid := [("accounting/days.lengths", laid_accounting_days_lengths)], narrowed := true }
def EntryMergeUptoSaid : Prop := entryMergeUptoRow.holds Tryd.pinned (OpenSpec.upto entryMergeSpec)

/-- 'accountinglaw12.EntryReverse', WHERE WHAT IT READS IS OF BULK AT MOST 1048576: true; the input reads as it did. -/
def entryReverseUptoRow : OpenClaim := { program := "ytjeecehhcajfaaadoor", sum := "8fcdb8fd585a89a680bdc3a71a01ebae51aea20a5bd071a6487873a883cb10b8", func := "accounting/accountinglaw12.EntryReverse", spec := "entryReverse", inPlace := ["math/bits.Add64"], unfollowed := true, recurses := true, named := ["accounting/days.lengths"], plainKeys := false, apart := false, laid := [("accounting/days.lengths", laid_accounting_days_lengths)], narrowed := true }
def EntryReverseUptoSaid : Prop := entryReverseUptoRow.holds Tryd.pinned (OpenSpec.upto entryReverseSpec)

/-- 'accountinglaw12.EntrySame', WHERE WHAT IT READS IS OF BULK AT MOST 1048576: true; the input reads as it did. -/
def entrySameUptoRow : OpenClaim := { program := "ytjeecehhcajfaaadoor", sum := "8fcdb8fd585a89a680bdc3a71a01ebae51aea20a5bd071a6487873a883cb10b8", func := "accounting/accountinglaw12.EntrySame", spec := "entrySame", inPlace := ["math/bits.Add64"], unfollowed := true, recurses := true, named := ["accounting/days.lengths"], plainKeys := false, apart := false, laid := [("accounting/days.lengths", laid_accounting_days_lengths)], narrowed := true }
def EntrySameUptoSaid : Prop := entrySameUptoRow.holds Tryd.pinned (OpenSpec.upto entrySameSpec)

/-- 'accountinglaw12.EntryConserve', WHERE WHAT IT READS IS OF BULK AT MOST 1048576: true; the input reads as it did. -/
def entryConserveUptoRow : OpenClaim := { program := "ytjeecehhcajfaaadoor", sum := "8fcdb8fd585a89a680bdc3a71a01ebae51aea20a5bd071a6487873a883cb10b8", func := "accounting/accountinglaw12.EntryConserve", spec := "entryConserve", inPlace := ["math/bits.Add64"], unfollowed := true, recurses := true, named := ["accounting/days.lengths"], plainKeys := false, apart := false, laid := [("accounting/days.lengths", laid_accounting_days_lengths)], narrowed := true }
def EntryConserveUptoSaid : Prop := entryConserveUptoRow.holds Tryd.pinned (OpenSpec.upto entryConserveSpec)

/-- 'accountinglaw12.EntryTwice', WHERE WHAT IT READS IS OF BULK AT MOST 1048576: true; the input reads as it did. -/
def entryTwiceUptoRow : OpenClaim := { program := "ytjeecehhcajfaaadoor", sum := "8fcdb8fd585a89a680bdc3a71a01ebae51aea20a5bd071a6487873a883cb10b8", func := "accounting/accountinglaw12.EntryTwice", spec := "entryTwice", inPlace := ["math/bits.Add64"], unfollowed := true, recurses := true, named := ["accounting/days.lengths"], plainKeys := false, apart := false, laid := [("accounting/days.lengths", laid_accounting_days_lengths)], narrowed := true }
def EntryTwiceUptoSaid : Prop := entryTwiceUptoRow.holds Tryd.pinned (OpenSpec.upto entryTwiceSpec)

/-- 'accountinglaw12.EntryOrder', WHERE WHAT IT READS IS OF BULK AT MOST 1048576: true; the input reads as it did. -/
def entryOrderUptoRow : OpenClaim := { program := "ytjeecehhcajfaaadoor", sum := "8fcdb8fd585a89a680bdc3a71a01ebae51aea20a5bd071a6487873a883cb10b8", func := "accounting/accountinglaw12.EntryOrder", spec := "entryOrder", inPlace := ["math/bits.Add64"], unfollowed := true, recurses := true, named := ["accounting/days.lengths"], plainKeys := false, apart := false, laid := [("accounting/days.lengths", laid_accounting_days_lengths)], narrowed := true }
def EntryOrderUptoSaid : Prop := entryOrderUptoRow.holds Tryd.pinned (OpenSpec.upto entryOrderSpec)

end Rows
end Go.Proofs.YtjeecehhcajfaaaDoor
