/-
  No cell of these rows narrows 'for every input' (looked for: loops, veiled, ifaces, maps, wideKeys, modest, calm, conditions, laid).
  DERIVED. THE GIVEN ROWS OF THIS SEAT. 7 by the template 'for every input the law returns true; each argument reads behind the call as it read before'; 0 by the template 'total and deterministic' (their statements: YtgjpegmhlnabpaaTotals.lean).
  GIVEN WITH THE SEED: the statements are not yours to turn. If you find one false, say at which input.
  Laid BY PROGRAM, IN A SANDBOX (cutbox-rows.mjs): the forced cells as the released guide's own fill.sh prints them over the translation 61ae6b83be2ef678… (all of the seat's roots in one cut). By AI agents, Wed Nov 11 2026. No macro, syntax, notation, axiom, sorry.
-/
import Derived.Test.YtgjpegmhlnabpaaChecked
import GoSem.Claim
import GoSem.ClaimJoined
import GoSem.ClaimMapViews
import Derived.JoinedTies
import Derived.KernelRfl
namespace Go.Proofs.Ytgjpegmhlnabpaa
/- THE CELL 'sum', in the pinned program and in every row, IS THE sha256 OF THE DUMP (.gsa) THAT YtgjpegmhlnabpaaProg.lean LOADS. Nothing in Lean hashes anything: it is a label: what it is worth is what the hold of that sum in a sandbox is worth. -/
noncomputable def Try.pinned : Pinned := { name := "ytgjpegmhlnabpaa", sum := "61ae6b83be2ef6784208132f8c420d3413684e9bba1f74c71256c0ec7d7c61ca", checked := Try.checked }
namespace Rows
def none {H : Type} : Left H := { results := [], args := [] }

/-- 'accountinglaw25.TaxOn': WHATEVER THE INPUT: true; the input reads as it did. -/
def taxOnSpec : ChangeSpec := { name := "taxOn", fn := fun _ => fun
  | [d1, d2, d3] => { results := [.lit (.bool true)], args := [d1, d2, d3] }
  | _ => none }
def taxOnRow : OpenClaim := { program := "ytgjpegmhlnabpaa", sum := "61ae6b83be2ef6784208132f8c420d3413684e9bba1f74c71256c0ec7d7c61ca", func := "accounting/accountinglaw25.TaxOn", spec := "taxOn", unfollowed := true, recurses := true, apart := false }
def TaxOnSaid : Prop := taxOnRow.holds Try.pinned (OpenSpec.ofChange taxOnSpec)

/-- ITS FALSE NEIGHBOUR: 'it returns false'. Refute it at one input. -/
def taxOnWrong : ChangeSpec := { name := "taxOn", fn := fun _ => fun
  | [d1, d2, d3] => { results := [.lit (.bool false)], args := [d1, d2, d3] }
  | _ => none }
def TaxOnWrongFalsely : Prop := taxOnRow.holds Try.pinned (OpenSpec.ofChange taxOnWrong)

/-- 'accountinglaw25.TaxIn': WHATEVER THE INPUT: true; the input reads as it did. -/
def taxInSpec : ChangeSpec := { name := "taxIn", fn := fun _ => fun
  | [d1, d2, d3] => { results := [.lit (.bool true)], args := [d1, d2, d3] }
  | _ => none }
def taxInRow : OpenClaim := { program := "ytgjpegmhlnabpaa", sum := "61ae6b83be2ef6784208132f8c420d3413684e9bba1f74c71256c0ec7d7c61ca", func := "accounting/accountinglaw25.TaxIn", spec := "taxIn", unfollowed := true, recurses := true, apart := false }
def TaxInSaid : Prop := taxInRow.holds Try.pinned (OpenSpec.ofChange taxInSpec)

/-- ITS FALSE NEIGHBOUR: 'it returns false'. Refute it at one input. -/
def taxInWrong : ChangeSpec := { name := "taxIn", fn := fun _ => fun
  | [d1, d2, d3] => { results := [.lit (.bool false)], args := [d1, d2, d3] }
  | _ => none }
def TaxInWrongFalsely : Prop := taxInRow.holds Try.pinned (OpenSpec.ofChange taxInWrong)

/-- 'accountinglaw25.TaxReturns': WHATEVER THE INPUT: true; the input reads as it did. -/
def taxReturnsSpec : ChangeSpec := { name := "taxReturns", fn := fun _ => fun
  | [d1, d2, d3] => { results := [.lit (.bool true)], args := [d1, d2, d3] }
  | _ => none }
def taxReturnsRow : OpenClaim := { program := "ytgjpegmhlnabpaa", sum := "61ae6b83be2ef6784208132f8c420d3413684e9bba1f74c71256c0ec7d7c61ca", func := "accounting/accountinglaw25.TaxReturns", spec := "taxReturns", unfollowed := true, recurses := true, apart := false }
def TaxReturnsSaid : Prop := taxReturnsRow.holds Try.pinned (OpenSpec.ofChange taxReturnsSpec)

/-- ITS FALSE NEIGHBOUR: 'it returns false'. Refute it at one input. -/
def taxReturnsWrong : ChangeSpec := { name := "taxReturns", fn := fun _ => fun
  | [d1, d2, d3] => { results := [.lit (.bool false)], args := [d1, d2, d3] }
  | _ => none }
def TaxReturnsWrongFalsely : Prop := taxReturnsRow.holds Try.pinned (OpenSpec.ofChange taxReturnsWrong)

/-- 'accountinglaw25.TaxCodes': WHATEVER THE INPUT: true; the input reads as it did. -/
def taxCodesSpec : ChangeSpec := { name := "taxCodes", fn := fun _ => fun
  | [d] => { results := [.lit (.bool true)], args := [d] }
  | _ => none }
def taxCodesRow : OpenClaim := { program := "ytgjpegmhlnabpaa", sum := "61ae6b83be2ef6784208132f8c420d3413684e9bba1f74c71256c0ec7d7c61ca", func := "accounting/accountinglaw25.TaxCodes", spec := "taxCodes", unfollowed := true, recurses := true, apart := false }
def TaxCodesSaid : Prop := taxCodesRow.holds Try.pinned (OpenSpec.ofChange taxCodesSpec)

/-- ITS FALSE NEIGHBOUR: 'it returns false'. Refute it at one input. -/
def taxCodesWrong : ChangeSpec := { name := "taxCodes", fn := fun _ => fun
  | [d] => { results := [.lit (.bool false)], args := [d] }
  | _ => none }
def TaxCodesWrongFalsely : Prop := taxCodesRow.holds Try.pinned (OpenSpec.ofChange taxCodesWrong)

/-- 'accountinglaw25.TaxOf': WHATEVER THE INPUT: true; the input reads as it did. -/
def taxOfSpec : ChangeSpec := { name := "taxOf", fn := fun _ => fun
  | [d1, d2, d3, d4] => { results := [.lit (.bool true)], args := [d1, d2, d3, d4] }
  | _ => none }
def taxOfRow : OpenClaim := { program := "ytgjpegmhlnabpaa", sum := "61ae6b83be2ef6784208132f8c420d3413684e9bba1f74c71256c0ec7d7c61ca", func := "accounting/accountinglaw25.TaxOf", spec := "taxOf", unfollowed := true, recurses := true, apart := false }
def TaxOfSaid : Prop := taxOfRow.holds Try.pinned (OpenSpec.ofChange taxOfSpec)

/-- ITS FALSE NEIGHBOUR: 'it returns false'. Refute it at one input. -/
def taxOfWrong : ChangeSpec := { name := "taxOf", fn := fun _ => fun
  | [d1, d2, d3, d4] => { results := [.lit (.bool false)], args := [d1, d2, d3, d4] }
  | _ => none }
def TaxOfWrongFalsely : Prop := taxOfRow.holds Try.pinned (OpenSpec.ofChange taxOfWrong)

/-- 'accountinglaw25.TaxWithin': WHATEVER THE INPUT: true; the input reads as it did. -/
def taxWithinSpec : ChangeSpec := { name := "taxWithin", fn := fun _ => fun
  | [d1, d2, d3] => { results := [.lit (.bool true)], args := [d1, d2, d3] }
  | _ => none }
def taxWithinRow : OpenClaim := { program := "ytgjpegmhlnabpaa", sum := "61ae6b83be2ef6784208132f8c420d3413684e9bba1f74c71256c0ec7d7c61ca", func := "accounting/accountinglaw25.TaxWithin", spec := "taxWithin", unfollowed := true, recurses := true, apart := false }
def TaxWithinSaid : Prop := taxWithinRow.holds Try.pinned (OpenSpec.ofChange taxWithinSpec)

/-- ITS FALSE NEIGHBOUR: 'it returns false'. Refute it at one input. -/
def taxWithinWrong : ChangeSpec := { name := "taxWithin", fn := fun _ => fun
  | [d1, d2, d3] => { results := [.lit (.bool false)], args := [d1, d2, d3] }
  | _ => none }
def TaxWithinWrongFalsely : Prop := taxWithinRow.holds Try.pinned (OpenSpec.ofChange taxWithinWrong)

/-- 'accountinglaw25.TaxClose': WHATEVER THE INPUT: true; the input reads as it did. -/
def taxCloseSpec : ChangeSpec := { name := "taxClose", fn := fun _ => fun
  | [d1, d2, d3] => { results := [.lit (.bool true)], args := [d1, d2, d3] }
  | _ => none }
def taxCloseRow : OpenClaim := { program := "ytgjpegmhlnabpaa", sum := "61ae6b83be2ef6784208132f8c420d3413684e9bba1f74c71256c0ec7d7c61ca", func := "accounting/accountinglaw25.TaxClose", spec := "taxClose", unfollowed := true, recurses := true, apart := false }
def TaxCloseSaid : Prop := taxCloseRow.holds Try.pinned (OpenSpec.ofChange taxCloseSpec)

/-- ITS FALSE NEIGHBOUR: 'it returns false'. Refute it at one input. -/
def taxCloseWrong : ChangeSpec := { name := "taxClose", fn := fun _ => fun
  | [d1, d2, d3] => { results := [.lit (.bool false)], args := [d1, d2, d3] }
  | _ => none }
def TaxCloseWrongFalsely : Prop := taxCloseRow.holds Try.pinned (OpenSpec.ofChange taxCloseWrong)

/- THE SECOND FORM. 'bulk': how many values and letters a reading holds, each counted each time it is reached (what is shared counts as often as it is met; a slice's spare places count too). A statement '..UptoSaid' is the law's where the arguments, and the package variables that the reading takes, are together of bulk at most 1048576: NARROWER than '..Said'. Prove '..Said' where nothing that the law and all that it calls make is longer than what came in: it says more and counts as full. Else prove '..UptoSaid'. A law counts once. -/
mutual
def uptoBulk {H : Type} : DataW H → Nat
  | .lit (.string bytes) => bytes.length + 1
  | .lit _ => 1
  | .nil => 1
  | .ptr d => uptoBulk d + 1
  | .slice elems spare => uptoBulkAll elems + uptoBulkAll spare + 1
  | .agg parts => uptoBulkAll parts + 1
  | .iface _ d => uptoBulk d + 1
  | .map entries => uptoBulkEntries entries + 1
  | .held _ => 1
def uptoBulkAll {H : Type} : List (DataW H) → Nat
  | [] => 0
  | d :: r => uptoBulk d + uptoBulkAll r
def uptoBulkEntries {H : Type} : List (Lit × DataW H) → Nat
  | [] => 0
  | x :: r => uptoBulkEntry x + uptoBulkEntries r
def uptoBulkEntry {H : Type} : Lit × DataW H → Nat
  | (.string bytes, d) => bytes.length + uptoBulk d + 1
  | (_, d) => uptoBulk d + 1
 end
def uptoSmall : (H : Type) → List (DataW H) → Bool := fun _ ds => decide (uptoBulkAll ds ≤ 1048576)
def OpenSpec.upto (s : _root_.Go.ChangeSpec) : _root_.Go.OpenSpec := { _root_.Go.OpenSpec.ofChange s with cond := some uptoSmall }

/-- 'accountinglaw25.TaxOn', WHERE WHAT IT READS IS OF BULK AT MOST 1048576: true; the input reads as it did. -/
def taxOnUptoRow : OpenClaim := { program := "ytgjpegmhlnabpaa", sum := "61ae6b83be2ef6784208132f8c420d3413684e9bba1f74c71256c0ec7d7c61ca", func := "accounting/accountinglaw25.TaxOn", spec := "taxOn", unfollowed := true, recurses := true, apart := false, narrowed := true }
def TaxOnUptoSaid : Prop := taxOnUptoRow.holds Try.pinned (OpenSpec.upto taxOnSpec)

/-- 'accountinglaw25.TaxIn', WHERE WHAT IT READS IS OF BULK AT MOST 1048576: true; the input reads as it did. -/
def taxInUptoRow : OpenClaim := { program := "ytgjpegmhlnabpaa", sum := "61ae6b83be2ef6784208132f8c420d3413684e9bba1f74c71256c0ec7d7c61ca", func := "accounting/accountinglaw25.TaxIn", spec := "taxIn", unfollowed := true, recurses := true, apart := false, narrowed := true }
def TaxInUptoSaid : Prop := taxInUptoRow.holds Try.pinned (OpenSpec.upto taxInSpec)

/-- 'accountinglaw25.TaxReturns', WHERE WHAT IT READS IS OF BULK AT MOST 1048576: true; the input reads as it did. -/
def taxReturnsUptoRow : OpenClaim := { program := "ytgjpegmhlnabpaa", sum := "61ae6b83be2ef6784208132f8c420d3413684e9bba1f74c71256c0ec7d7c61ca", func := "accounting/accountinglaw25.TaxReturns", spec := "taxReturns", unfollowed := true, recurses := true, apart := false, narrowed := true }
def TaxReturnsUptoSaid : Prop := taxReturnsUptoRow.holds Try.pinned (OpenSpec.upto taxReturnsSpec)

/-- 'accountinglaw25.TaxCodes', WHERE WHAT IT READS IS OF BULK AT MOST 1048576: true; the input reads as it did. -/
def taxCodesUptoRow : OpenClaim := { program := "ytgjpegmhlnabpaa", sum := "61ae6b83be2ef6784208132f8c420d3413684e9bba1f74c71256c0ec7d7c61ca", func := "accounting/accountinglaw25.TaxCodes", spec := "taxCodes", unfollowed := true, recurses := true, apart := false, narrowed := true }
def TaxCodesUptoSaid : Prop := taxCodesUptoRow.holds Try.pinned (OpenSpec.upto taxCodesSpec)

/-- 'accountinglaw25.TaxOf', WHERE WHAT IT READS IS OF BULK AT MOST 1048576: true; the input reads as it did. -/
def taxOfUptoRow : OpenClaim := { program := "ytgjpegmhlnabpaa", sum := "61ae6b83be2ef6784208132f8c420d3413684e9bba1f74c71256c0ec7d7c61ca", func := "accounting/accountinglaw25.TaxOf", spec := "taxOf", unfollowed := true, recurses := true, apart := false, narrowed := true }
def TaxOfUptoSaid : Prop := taxOfUptoRow.holds Try.pinned (OpenSpec.upto taxOfSpec)

/-- 'accountinglaw25.TaxWithin', WHERE WHAT IT READS IS OF BULK AT MOST 1048576: true; the input reads as it did. -/
def taxWithinUptoRow : OpenClaim := { program := "ytgjpegmhlnabpaa", sum := "61ae6b83be2ef6784208132f8c420d3413684e9bba1f74c71256c0ec7d7c61ca", func := "accounting/accountinglaw25.TaxWithin", spec := "taxWithin", unfollowed := true, recurses := true, apart := false, narrowed := true }
def TaxWithinUptoSaid : Prop := taxWithinUptoRow.holds Try.pinned (OpenSpec.upto taxWithinSpec)

/-- 'accountinglaw25.TaxClose', WHERE WHAT IT READS IS OF BULK AT MOST 1048576: true; the input reads as it did. -/
def taxCloseUptoRow : OpenClaim := { program := "ytgjpegmhlnabpaa", sum := "61ae6b83be2ef6784208132f8c420d3413684e9bba1f74c71256c0ec7d7c61ca", func := "accounting/accountinglaw25.TaxClose", spec := "taxClose", unfollowed := true, recurses := true, apart := false, narrowed := true }
def TaxCloseUptoSaid : Prop := taxCloseUptoRow.holds Try.pinned (OpenSpec.upto taxCloseSpec)

end Rows
end Go.Proofs.Ytgjpegmhlnabpaa
