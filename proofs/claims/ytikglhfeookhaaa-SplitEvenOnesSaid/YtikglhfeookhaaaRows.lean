/-
  No cell of these rows narrows 'for every input' (looked for: loops, veiled, ifaces, maps, wideKeys, modest, calm, conditions, laid).
  DERIVED. THE GIVEN ROWS OF THIS SEAT. 8 by the template 'for every input the law returns true; each argument reads behind the call as it read before'; 0 by the template 'total and deterministic' (their statements: YtikglhfeookhaaaTotals.lean).
  GIVEN WITH THE SEED: the statements are not yours to turn. If you find one false, say at which input.
  Laid BY PROGRAM, IN A SANDBOX (cutbox-rows.mjs): the forced cells as the released guide's own fill.sh prints them over the translation 3471f8089ca0b55c… (all of the seat's roots in one cut). By AI agents, Wed Nov 11 2026. No macro, syntax, notation, axiom, sorry.
-/
import Derived.Test.YtikglhfeookhaaaChecked
import GoSem.Claim
import GoSem.ClaimJoined
import GoSem.ClaimMapViews
import Derived.JoinedTies
import Derived.KernelRfl
namespace Go.Proofs.Ytikglhfeookhaaa
/- THE CELL 'sum', in the pinned program and in every row, IS THE sha256 OF THE DUMP (.gsa) THAT YtikglhfeookhaaaProg.lean LOADS. Nothing in Lean hashes anything: it is a label: what it is worth is what the hold of that sum in a sandbox is worth. -/
noncomputable def Try.pinned : Pinned := { name := "ytikglhfeookhaaa", sum := "3471f8089ca0b55c1a472cf6910d50f6ad852fd2770db825da2d1de033b1840e", checked := Try.checked }
namespace Rows
def none {H : Type} : Left H := { results := [], args := [] }

/-- 'accountinglaw08.SplitReference': WHATEVER THE INPUT: true; the input reads as it did. -/
def splitReferenceSpec : ChangeSpec := { name := "splitReference", fn := fun _ => fun
  | [d1, d2] => { results := [.lit (.bool true)], args := [d1, d2] }
  | _ => none }
def splitReferenceRow : OpenClaim := { program := "ytikglhfeookhaaa", sum := "3471f8089ca0b55c1a472cf6910d50f6ad852fd2770db825da2d1de033b1840e", func := "accounting/accountinglaw08.SplitReference", spec := "splitReference", unfollowed := true, recurses := true, apart := false }
def SplitReferenceSaid : Prop := splitReferenceRow.holds Try.pinned (OpenSpec.ofChange splitReferenceSpec)

/-- ITS FALSE NEIGHBOUR: 'it returns false'. Refute it at one input. -/
def splitReferenceWrong : ChangeSpec := { name := "splitReference", fn := fun _ => fun
  | [d1, d2] => { results := [.lit (.bool false)], args := [d1, d2] }
  | _ => none }
def SplitReferenceWrongFalsely : Prop := splitReferenceRow.holds Try.pinned (OpenSpec.ofChange splitReferenceWrong)

/-- 'accountinglaw08.SplitEvenReference': WHATEVER THE INPUT: true; the input reads as it did. -/
def splitEvenReferenceSpec : ChangeSpec := { name := "splitEvenReference", fn := fun _ => fun
  | [d1, d2] => { results := [.lit (.bool true)], args := [d1, d2] }
  | _ => none }
def splitEvenReferenceRow : OpenClaim := { program := "ytikglhfeookhaaa", sum := "3471f8089ca0b55c1a472cf6910d50f6ad852fd2770db825da2d1de033b1840e", func := "accounting/accountinglaw08.SplitEvenReference", spec := "splitEvenReference", unfollowed := true, recurses := true, apart := false }
def SplitEvenReferenceSaid : Prop := splitEvenReferenceRow.holds Try.pinned (OpenSpec.ofChange splitEvenReferenceSpec)

/-- ITS FALSE NEIGHBOUR: 'it returns false'. Refute it at one input. -/
def splitEvenReferenceWrong : ChangeSpec := { name := "splitEvenReference", fn := fun _ => fun
  | [d1, d2] => { results := [.lit (.bool false)], args := [d1, d2] }
  | _ => none }
def SplitEvenReferenceWrongFalsely : Prop := splitEvenReferenceRow.holds Try.pinned (OpenSpec.ofChange splitEvenReferenceWrong)

/-- 'accountinglaw08.SplitSums': WHATEVER THE INPUT: true; the input reads as it did. -/
def splitSumsSpec : ChangeSpec := { name := "splitSums", fn := fun _ => fun
  | [d1, d2] => { results := [.lit (.bool true)], args := [d1, d2] }
  | _ => none }
def splitSumsRow : OpenClaim := { program := "ytikglhfeookhaaa", sum := "3471f8089ca0b55c1a472cf6910d50f6ad852fd2770db825da2d1de033b1840e", func := "accounting/accountinglaw08.SplitSums", spec := "splitSums", unfollowed := true, recurses := true, apart := false }
def SplitSumsSaid : Prop := splitSumsRow.holds Try.pinned (OpenSpec.ofChange splitSumsSpec)

/-- ITS FALSE NEIGHBOUR: 'it returns false'. Refute it at one input. -/
def splitSumsWrong : ChangeSpec := { name := "splitSums", fn := fun _ => fun
  | [d1, d2] => { results := [.lit (.bool false)], args := [d1, d2] }
  | _ => none }
def SplitSumsWrongFalsely : Prop := splitSumsRow.holds Try.pinned (OpenSpec.ofChange splitSumsWrong)

/-- 'accountinglaw08.SplitOrder': WHATEVER THE INPUT: true; the input reads as it did. -/
def splitOrderSpec : ChangeSpec := { name := "splitOrder", fn := fun _ => fun
  | [d1, d2] => { results := [.lit (.bool true)], args := [d1, d2] }
  | _ => none }
def splitOrderRow : OpenClaim := { program := "ytikglhfeookhaaa", sum := "3471f8089ca0b55c1a472cf6910d50f6ad852fd2770db825da2d1de033b1840e", func := "accounting/accountinglaw08.SplitOrder", spec := "splitOrder", unfollowed := true, recurses := true, apart := false }
def SplitOrderSaid : Prop := splitOrderRow.holds Try.pinned (OpenSpec.ofChange splitOrderSpec)

/-- ITS FALSE NEIGHBOUR: 'it returns false'. Refute it at one input. -/
def splitOrderWrong : ChangeSpec := { name := "splitOrder", fn := fun _ => fun
  | [d1, d2] => { results := [.lit (.bool false)], args := [d1, d2] }
  | _ => none }
def SplitOrderWrongFalsely : Prop := splitOrderRow.holds Try.pinned (OpenSpec.ofChange splitOrderWrong)

/-- 'accountinglaw08.SplitNegates': WHATEVER THE INPUT: true; the input reads as it did. -/
def splitNegatesSpec : ChangeSpec := { name := "splitNegates", fn := fun _ => fun
  | [d1, d2] => { results := [.lit (.bool true)], args := [d1, d2] }
  | _ => none }
def splitNegatesRow : OpenClaim := { program := "ytikglhfeookhaaa", sum := "3471f8089ca0b55c1a472cf6910d50f6ad852fd2770db825da2d1de033b1840e", func := "accounting/accountinglaw08.SplitNegates", spec := "splitNegates", unfollowed := true, recurses := true, apart := false }
def SplitNegatesSaid : Prop := splitNegatesRow.holds Try.pinned (OpenSpec.ofChange splitNegatesSpec)

/-- ITS FALSE NEIGHBOUR: 'it returns false'. Refute it at one input. -/
def splitNegatesWrong : ChangeSpec := { name := "splitNegates", fn := fun _ => fun
  | [d1, d2] => { results := [.lit (.bool false)], args := [d1, d2] }
  | _ => none }
def SplitNegatesWrongFalsely : Prop := splitNegatesRow.holds Try.pinned (OpenSpec.ofChange splitNegatesWrong)

/-- 'accountinglaw08.SplitScales': WHATEVER THE INPUT: true; the input reads as it did. -/
def splitScalesSpec : ChangeSpec := { name := "splitScales", fn := fun _ => fun
  | [d1, d2, d3] => { results := [.lit (.bool true)], args := [d1, d2, d3] }
  | _ => none }
def splitScalesRow : OpenClaim := { program := "ytikglhfeookhaaa", sum := "3471f8089ca0b55c1a472cf6910d50f6ad852fd2770db825da2d1de033b1840e", func := "accounting/accountinglaw08.SplitScales", spec := "splitScales", unfollowed := true, recurses := true, apart := false }
def SplitScalesSaid : Prop := splitScalesRow.holds Try.pinned (OpenSpec.ofChange splitScalesSpec)

/-- ITS FALSE NEIGHBOUR: 'it returns false'. Refute it at one input. -/
def splitScalesWrong : ChangeSpec := { name := "splitScales", fn := fun _ => fun
  | [d1, d2, d3] => { results := [.lit (.bool false)], args := [d1, d2, d3] }
  | _ => none }
def SplitScalesWrongFalsely : Prop := splitScalesRow.holds Try.pinned (OpenSpec.ofChange splitScalesWrong)

/-- 'accountinglaw08.SplitEvenOnes': WHATEVER THE INPUT: true; the input reads as it did. -/
def splitEvenOnesSpec : ChangeSpec := { name := "splitEvenOnes", fn := fun _ => fun
  | [d1, d2, d3] => { results := [.lit (.bool true)], args := [d1, d2, d3] }
  | _ => none }
def splitEvenOnesRow : OpenClaim := { program := "ytikglhfeookhaaa", sum := "3471f8089ca0b55c1a472cf6910d50f6ad852fd2770db825da2d1de033b1840e", func := "accounting/accountinglaw08.SplitEvenOnes", spec := "splitEvenOnes", unfollowed := true, recurses := true, apart := false }
def SplitEvenOnesSaid : Prop := splitEvenOnesRow.holds Try.pinned (OpenSpec.ofChange splitEvenOnesSpec)

/-- ITS FALSE NEIGHBOUR: 'it returns false'. Refute it at one input. -/
def splitEvenOnesWrong : ChangeSpec := { name := "splitEvenOnes", fn := fun _ => fun
  | [d1, d2, d3] => { results := [.lit (.bool false)], args := [d1, d2, d3] }
  | _ => none }
def SplitEvenOnesWrongFalsely : Prop := splitEvenOnesRow.holds Try.pinned (OpenSpec.ofChange splitEvenOnesWrong)

/-- 'accountinglaw08.SplitNear': WHATEVER THE INPUT: true; the input reads as it did. -/
def splitNearSpec : ChangeSpec := { name := "splitNear", fn := fun _ => fun
  | [d1, d2] => { results := [.lit (.bool true)], args := [d1, d2] }
  | _ => none }
def splitNearRow : OpenClaim := { program := "ytikglhfeookhaaa", sum := "3471f8089ca0b55c1a472cf6910d50f6ad852fd2770db825da2d1de033b1840e", func := "accounting/accountinglaw08.SplitNear", spec := "splitNear", unfollowed := true, recurses := true, apart := false }
def SplitNearSaid : Prop := splitNearRow.holds Try.pinned (OpenSpec.ofChange splitNearSpec)

/-- ITS FALSE NEIGHBOUR: 'it returns false'. Refute it at one input. -/
def splitNearWrong : ChangeSpec := { name := "splitNear", fn := fun _ => fun
  | [d1, d2] => { results := [.lit (.bool false)], args := [d1, d2] }
  | _ => none }
def SplitNearWrongFalsely : Prop := splitNearRow.holds Try.pinned (OpenSpec.ofChange splitNearWrong)

/- THE SECOND FORM. 'bulk': how many values and letters a reading holds, each counted each time it is reached (what is shared counts as often as it is met; a slice's spare places count too). A statement '..UptoSaid' is the law's where the arguments, and the package variables that the reading takes, are together of bulk at most 1048576: NARROWER than '..Said'. Prove '..Said' where nothing that the law and all that it calls make is longer than what came in: it says more and counts as full. Else prove '..UptoSaid'. A law counts once. -/
mutual
def uptoBulk {H : Type} : DataW H → Nat
  | .lit (.string bytes) => bytes.length + 1
  | .lit _ => 1
  | .nil => 1
  | .ptr d => uptoBulk d + 1
  | .slice elems spare => uptoBulkAll elems + uptoBulkAll spare + 1
  | .agg parts => uptoBulkAll parts + 1
  | .iface _ d => uptoBulk d + 1
  | .map entries => uptoBulkEntries entries + 1
  | .held _ => 1
def uptoBulkAll {H : Type} : List (DataW H) → Nat
  | [] => 0
  | d :: r => uptoBulk d + uptoBulkAll r
def uptoBulkEntries {H : Type} : List (Lit × DataW H) → Nat
  | [] => 0
  | x :: r => uptoBulkEntry x + uptoBulkEntries r
def uptoBulkEntry {H : Type} : Lit × DataW H → Nat
  | (.string bytes, d) => bytes.length + uptoBulk d + 1
  | (_, d) => uptoBulk d + 1
 end
def uptoSmall : (H : Type) → List (DataW H) → Bool := fun _ ds => decide (uptoBulkAll ds ≤ 1048576)
def OpenSpec.upto (s : _root_.Go.ChangeSpec) : _root_.Go.OpenSpec := { _root_.Go.OpenSpec.ofChange s with cond := some uptoSmall }

/-- 'accountinglaw08.SplitReference', WHERE WHAT IT READS IS OF BULK AT MOST 1048576: true; the input reads as it did. -/
def splitReferenceUptoRow : OpenClaim := { program := "ytikglhfeookhaaa", sum := "3471f8089ca0b55c1a472cf6910d50f6ad852fd2770db825da2d1de033b1840e", func := "accounting/accountinglaw08.SplitReference", spec := "splitReference", unfollowed := true, recurses := true, apart := false, narrowed := true }
def SplitReferenceUptoSaid : Prop := splitReferenceUptoRow.holds Try.pinned (OpenSpec.upto splitReferenceSpec)

/-- 'accountinglaw08.SplitEvenReference', WHERE WHAT IT READS IS OF BULK AT MOST 1048576: true; the input reads as it did. -/
def splitEvenReferenceUptoRow : OpenClaim := { program := "ytikglhfeookhaaa", sum := "3471f8089ca0b55c1a472cf6910d50f6ad852fd2770db825da2d1de033b1840e", func := "accounting/accountinglaw08.SplitEvenReference", spec := "splitEvenReference", unfollowed := true, recurses := true, apart := false, narrowed := true }
def SplitEvenReferenceUptoSaid : Prop := splitEvenReferenceUptoRow.holds Try.pinned (OpenSpec.upto splitEvenReferenceSpec)

/-- 'accountinglaw08.SplitSums', WHERE WHAT IT READS IS OF BULK AT MOST 1048576: true; the input reads as it did. -/
def splitSumsUptoRow : OpenClaim := { program := "ytikglhfeookhaaa", sum := "3471f8089ca0b55c1a472cf6910d50f6ad852fd2770db825da2d1de033b1840e", func := "accounting/accountinglaw08.SplitSums", spec := "splitSums", unfollowed := true, recurses := true, apart := false, narrowed := true }
def SplitSumsUptoSaid : Prop := splitSumsUptoRow.holds Try.pinned (OpenSpec.upto splitSumsSpec)

/-- 'accountinglaw08.SplitOrder', WHERE WHAT IT READS IS OF BULK AT MOST 1048576: true; the input reads as it did. -/
def splitOrderUptoRow : OpenClaim := { program := "ytikglhfeookhaaa", sum := "3471f8089ca0b55c1a472cf6910d50f6ad852fd2770db825da2d1de033b1840e", func := "accounting/accountinglaw08.SplitOrder", spec := "splitOrder", unfollowed := true, recurses := true, apart := false, narrowed := true }
def SplitOrderUptoSaid : Prop := splitOrderUptoRow.holds Try.pinned (OpenSpec.upto splitOrderSpec)

/-- 'accountinglaw08.SplitNegates', WHERE WHAT IT READS IS OF BULK AT MOST 1048576: true; the input reads as it did. -/
def splitNegatesUptoRow : OpenClaim := { program := "ytikglhfeookhaaa", sum := "3471f8089ca0b55c1a472cf6910d50f6ad852fd2770db825da2d1de033b1840e", func := "accounting/accountinglaw08.SplitNegates", spec := "splitNegates", unfollowed := true, recurses := true, apart := false, narrowed := true }
def SplitNegatesUptoSaid : Prop := splitNegatesUptoRow.holds Try.pinned (OpenSpec.upto splitNegatesSpec)

/-- 'accountinglaw08.SplitScales', WHERE WHAT IT READS IS OF BULK AT MOST 1048576: true; the input reads as it did. -/
def splitScalesUptoRow : OpenClaim := { program := "ytikglhfeookhaaa", sum := "3471f8089ca0b55c1a472cf6910d50f6ad852fd2770db825da2d1de033b1840e", func := "accounting/accountinglaw08.SplitScales", spec := "splitScales", unfollowed := true, recurses := true, apart := false, narrowed := true }
def SplitScalesUptoSaid : Prop := splitScalesUptoRow.holds Try.pinned (OpenSpec.upto splitScalesSpec)

/-- 'accountinglaw08.SplitEvenOnes', WHERE WHAT IT READS IS OF BULK AT MOST 1048576: true; the input reads as it did. -/
def splitEvenOnesUptoRow : OpenClaim := { program := "ytikglhfeookhaaa", sum := "3471f8089ca0b55c1a472cf6910d50f6ad852fd2770db825da2d1de033b1840e", func := "accounting/accountinglaw08.SplitEvenOnes", spec := "splitEvenOnes", unfollowed := true, recurses := true, apart := false, narrowed := true }
def SplitEvenOnesUptoSaid : Prop := splitEvenOnesUptoRow.holds Try.pinned (OpenSpec.upto splitEvenOnesSpec)

/-- 'accountinglaw08.SplitNear', WHERE WHAT IT READS IS OF BULK AT MOST 1048576: true; the input reads as it did. -/
def splitNearUptoRow : OpenClaim := { program := "ytikglhfeookhaaa", sum := "3471f8089ca0b55c1a472cf6910d50f6ad852fd2770db825da2d1de033b1840e", func := "accounting/accountinglaw08.SplitNear", spec := "splitNear", unfollowed := true, recurses := true, apart := false, narrowed := true }
def SplitNearUptoSaid : Prop := splitNearUptoRow.holds Try.pinned (OpenSpec.upto splitNearSpec)

end Rows
end Go.Proofs.Ytikglhfeookhaaa
