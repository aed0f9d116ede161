/-
  No cell of these rows narrows 'for every input' (looked for: loops, veiled, ifaces, maps, wideKeys, modest, calm, conditions, laid).
  DERIVED. THE GIVEN ROWS OF THIS SEAT. 9 by the template 'for every input the law returns true; each argument reads behind the call as it read before'; 0 by the template 'total and deterministic' (their statements: YtoppdlideonjjaaTotals.lean).
  GIVEN WITH THE SEED: the statements are not yours to turn. If you find one false, say at which input.
  Laid BY PROGRAM, IN A SANDBOX (cutbox-rows.mjs): the forced cells as the released guide's own fill.sh prints them over the translation 1716ecaf2970b822… (all of the seat's roots in one cut). By AI agents, Wed Nov 11 2026. No macro, syntax, notation, axiom, sorry.
-/
import Derived.Test.YtoppdlideonjjaaChecked
import GoSem.Claim
import GoSem.ClaimJoined
import GoSem.ClaimMapViews
import Derived.JoinedTies
import Derived.KernelRfl
namespace Go.Proofs.Ytoppdlideonjjaa
/- THE CELL 'sum', in the pinned program and in every row, IS THE sha256 OF THE DUMP (.gsa) THAT YtoppdlideonjjaaProg.lean LOADS. Nothing in Lean hashes anything: it is a label: what it is worth is what the hold of that sum in a sandbox is worth. -/
noncomputable def Try.pinned : Pinned := { name := "ytoppdlideonjjaa", sum := "1716ecaf2970b8226b3299e99f1e21db3c5794ea2fe0efd3b494f56a6a0d2fb8", checked := Try.checked }
namespace Rows
def none {H : Type} : Left H := { results := [], args := [] }

/-- 'accountinglaw32.ItemsCheck': WHATEVER THE INPUT: true; the input reads as it did. -/
def itemsCheckSpec : ChangeSpec := { name := "itemsCheck", fn := fun _ => fun
  | [d] => { results := [.lit (.bool true)], args := [d] }
  | _ => none }
def itemsCheckRow : OpenClaim := { program := "ytoppdlideonjjaa", sum := "1716ecaf2970b8226b3299e99f1e21db3c5794ea2fe0efd3b494f56a6a0d2fb8", func := "accounting/accountinglaw32.ItemsCheck", spec := "itemsCheck", unfollowed := true, recurses := true, apart := false }
def ItemsCheckSaid : Prop := itemsCheckRow.holds Try.pinned (OpenSpec.ofChange itemsCheckSpec)

/-- ITS FALSE NEIGHBOUR: 'it returns false'. Refute it at one input. -/
def itemsCheckWrong : ChangeSpec := { name := "itemsCheck", fn := fun _ => fun
  | [d] => { results := [.lit (.bool false)], args := [d] }
  | _ => none }
def ItemsCheckWrongFalsely : Prop := itemsCheckRow.holds Try.pinned (OpenSpec.ofChange itemsCheckWrong)

/-- 'accountinglaw32.ItemsConverts': WHATEVER THE INPUT: true; the input reads as it did. -/
def itemsConvertsSpec : ChangeSpec := { name := "itemsConverts", fn := fun _ => fun
  | [d1, d2, d3] => { results := [.lit (.bool true)], args := [d1, d2, d3] }
  | _ => none }
def itemsConvertsRow : OpenClaim := { program := "ytoppdlideonjjaa", sum := "1716ecaf2970b8226b3299e99f1e21db3c5794ea2fe0efd3b494f56a6a0d2fb8", func := "accounting/accountinglaw32.ItemsConverts", spec := "itemsConverts", unfollowed := true, recurses := true, apart := false }
def ItemsConvertsSaid : Prop := itemsConvertsRow.holds Try.pinned (OpenSpec.ofChange itemsConvertsSpec)

/-- ITS FALSE NEIGHBOUR: 'it returns false'. Refute it at one input. -/
def itemsConvertsWrong : ChangeSpec := { name := "itemsConverts", fn := fun _ => fun
  | [d1, d2, d3] => { results := [.lit (.bool false)], args := [d1, d2, d3] }
  | _ => none }
def ItemsConvertsWrongFalsely : Prop := itemsConvertsRow.holds Try.pinned (OpenSpec.ofChange itemsConvertsWrong)

/-- 'accountinglaw32.ItemsRoundTrip': WHATEVER THE INPUT: true; the input reads as it did. -/
def itemsRoundTripSpec : ChangeSpec := { name := "itemsRoundTrip", fn := fun _ => fun
  | [d1, d2, d3] => { results := [.lit (.bool true)], args := [d1, d2, d3] }
  | _ => none }
def itemsRoundTripRow : OpenClaim := { program := "ytoppdlideonjjaa", sum := "1716ecaf2970b8226b3299e99f1e21db3c5794ea2fe0efd3b494f56a6a0d2fb8", func := "accounting/accountinglaw32.ItemsRoundTrip", spec := "itemsRoundTrip", unfollowed := true, recurses := true, apart := false }
def ItemsRoundTripSaid : Prop := itemsRoundTripRow.holds Try.pinned (OpenSpec.ofChange itemsRoundTripSpec)

/-- ITS FALSE NEIGHBOUR: 'it returns false'. Refute it at one input. -/
def itemsRoundTripWrong : ChangeSpec := { name := "itemsRoundTrip", fn := fun _ => fun
  | [d1, d2, d3] => { results := [.lit (.bool false)], args := [d1, d2, d3] }
  | _ => none }
def ItemsRoundTripWrongFalsely : Prop := itemsRoundTripRow.holds Try.pinned (OpenSpec.ofChange itemsRoundTripWrong)

/-- 'accountinglaw32.ItemsAdds': WHATEVER THE INPUT: true; the input reads as it did. -/
def itemsAddsSpec : ChangeSpec := { name := "itemsAdds", fn := fun _ => fun
  | [d] => { results := [.lit (.bool true)], args := [d] }
  | _ => none }
def itemsAddsRow : OpenClaim := { program := "ytoppdlideonjjaa", sum := "1716ecaf2970b8226b3299e99f1e21db3c5794ea2fe0efd3b494f56a6a0d2fb8", func := "accounting/accountinglaw32.ItemsAdds", spec := "itemsAdds", unfollowed := true, recurses := true, apart := false }
def ItemsAddsSaid : Prop := itemsAddsRow.holds Try.pinned (OpenSpec.ofChange itemsAddsSpec)

/-- ITS FALSE NEIGHBOUR: 'it returns false'. Refute it at one input. -/
def itemsAddsWrong : ChangeSpec := { name := "itemsAdds", fn := fun _ => fun
  | [d] => { results := [.lit (.bool false)], args := [d] }
  | _ => none }
def ItemsAddsWrongFalsely : Prop := itemsAddsRow.holds Try.pinned (OpenSpec.ofChange itemsAddsWrong)

/-- 'accountinglaw32.ItemsBase': WHATEVER THE INPUT: true; the input reads as it did. -/
def itemsBaseSpec : ChangeSpec := { name := "itemsBase", fn := fun _ => fun
  | [d1, d2] => { results := [.lit (.bool true)], args := [d1, d2] }
  | _ => none }
def itemsBaseRow : OpenClaim := { program := "ytoppdlideonjjaa", sum := "1716ecaf2970b8226b3299e99f1e21db3c5794ea2fe0efd3b494f56a6a0d2fb8", func := "accounting/accountinglaw32.ItemsBase", spec := "itemsBase", unfollowed := true, recurses := true, apart := false }
def ItemsBaseSaid : Prop := itemsBaseRow.holds Try.pinned (OpenSpec.ofChange itemsBaseSpec)

/-- ITS FALSE NEIGHBOUR: 'it returns false'. Refute it at one input. -/
def itemsBaseWrong : ChangeSpec := { name := "itemsBase", fn := fun _ => fun
  | [d1, d2] => { results := [.lit (.bool false)], args := [d1, d2] }
  | _ => none }
def ItemsBaseWrongFalsely : Prop := itemsBaseRow.holds Try.pinned (OpenSpec.ofChange itemsBaseWrong)

/-- 'accountinglaw32.ItemsLists': WHATEVER THE INPUT: true; the input reads as it did. -/
def itemsListsSpec : ChangeSpec := { name := "itemsLists", fn := fun _ => fun
  | [d1, d2] => { results := [.lit (.bool true)], args := [d1, d2] }
  | _ => none }
def itemsListsRow : OpenClaim := { program := "ytoppdlideonjjaa", sum := "1716ecaf2970b8226b3299e99f1e21db3c5794ea2fe0efd3b494f56a6a0d2fb8", func := "accounting/accountinglaw32.ItemsLists", spec := "itemsLists", unfollowed := true, recurses := true, apart := false }
def ItemsListsSaid : Prop := itemsListsRow.holds Try.pinned (OpenSpec.ofChange itemsListsSpec)

/-- ITS FALSE NEIGHBOUR: 'it returns false'. Refute it at one input. -/
def itemsListsWrong : ChangeSpec := { name := "itemsLists", fn := fun _ => fun
  | [d1, d2] => { results := [.lit (.bool false)], args := [d1, d2] }
  | _ => none }
def ItemsListsWrongFalsely : Prop := itemsListsRow.holds Try.pinned (OpenSpec.ofChange itemsListsWrong)

/-- 'accountinglaw32.ItemsOwn': WHATEVER THE INPUT: true; the input reads as it did. -/
def itemsOwnSpec : ChangeSpec := { name := "itemsOwn", fn := fun _ => fun
  | [d] => { results := [.lit (.bool true)], args := [d] }
  | _ => none }
def itemsOwnRow : OpenClaim := { program := "ytoppdlideonjjaa", sum := "1716ecaf2970b8226b3299e99f1e21db3c5794ea2fe0efd3b494f56a6a0d2fb8", func := "accounting/accountinglaw32.ItemsOwn", spec := "itemsOwn", unfollowed := true, recurses := true, apart := false }
def ItemsOwnSaid : Prop := itemsOwnRow.holds Try.pinned (OpenSpec.ofChange itemsOwnSpec)

/-- ITS FALSE NEIGHBOUR: 'it returns false'. Refute it at one input. -/
def itemsOwnWrong : ChangeSpec := { name := "itemsOwn", fn := fun _ => fun
  | [d] => { results := [.lit (.bool false)], args := [d] }
  | _ => none }
def ItemsOwnWrongFalsely : Prop := itemsOwnRow.holds Try.pinned (OpenSpec.ofChange itemsOwnWrong)

/-- 'accountinglaw32.ItemsNil': WHATEVER THE INPUT: true; the input reads as it did. -/
def itemsNilSpec : ChangeSpec := { name := "itemsNil", fn := fun _ => fun
  | [d] => { results := [.lit (.bool true)], args := [d] }
  | _ => none }
def itemsNilRow : OpenClaim := { program := "ytoppdlideonjjaa", sum := "1716ecaf2970b8226b3299e99f1e21db3c5794ea2fe0efd3b494f56a6a0d2fb8", func := "accounting/accountinglaw32.ItemsNil", spec := "itemsNil", unfollowed := true, recurses := true, apart := false }
def ItemsNilSaid : Prop := itemsNilRow.holds Try.pinned (OpenSpec.ofChange itemsNilSpec)

/-- ITS FALSE NEIGHBOUR: 'it returns false'. Refute it at one input. -/
def itemsNilWrong : ChangeSpec := { name := "itemsNil", fn := fun _ => fun
  | [d] => { results := [.lit (.bool false)], args := [d] }
  | _ => none }
def ItemsNilWrongFalsely : Prop := itemsNilRow.holds Try.pinned (OpenSpec.ofChange itemsNilWrong)

/-- 'accountinglaw32.ItemsInverse': WHATEVER THE INPUT: true; the input reads as it did. -/
def itemsInverseSpec : ChangeSpec := { name := "itemsInverse", fn := fun _ => fun
  | [d1, d2, d3] => { results := [.lit (.bool true)], args := [d1, d2, d3] }
  | _ => none }
def itemsInverseRow : OpenClaim := { program := "ytoppdlideonjjaa", sum := "1716ecaf2970b8226b3299e99f1e21db3c5794ea2fe0efd3b494f56a6a0d2fb8", func := "accounting/accountinglaw32.ItemsInverse", spec := "itemsInverse", unfollowed := true, recurses := true, apart := false }
def ItemsInverseSaid : Prop := itemsInverseRow.holds Try.pinned (OpenSpec.ofChange itemsInverseSpec)

/-- ITS FALSE NEIGHBOUR: 'it returns false'. Refute it at one input. -/
def itemsInverseWrong : ChangeSpec := { name := "itemsInverse", fn := fun _ => fun
  | [d1, d2, d3] => { results := [.lit (.bool false)], args := [d1, d2, d3] }
  | _ => none }
def ItemsInverseWrongFalsely : Prop := itemsInverseRow.holds Try.pinned (OpenSpec.ofChange itemsInverseWrong)

/- THE SECOND FORM. 'bulk': how many values and letters a reading holds, each counted each time it is reached (what is shared counts as often as it is met; a slice's spare places count too). A statement '..UptoSaid' is the law's where the arguments, and the package variables that the reading takes, are together of bulk at most 1048576: NARROWER than '..Said'. Prove '..Said' where nothing that the law and all that it calls make is longer than what came in: it says more and counts as full. Else prove '..UptoSaid'. A law counts once. -/
mutual
def uptoBulk {H : Type} : DataW H → Nat
  | .lit (.string bytes) => bytes.length + 1
  | .lit _ => 1
  | .nil => 1
  | .ptr d => uptoBulk d + 1
  | .slice elems spare => uptoBulkAll elems + uptoBulkAll spare + 1
  | .agg parts => uptoBulkAll parts + 1
  | .iface _ d => uptoBulk d + 1
  | .map entries => uptoBulkEntries entries + 1
  | .held _ => 1
def uptoBulkAll {H : Type} : List (DataW H) → Nat
  | [] => 0
  | d :: r => uptoBulk d + uptoBulkAll r
def uptoBulkEntries {H : Type} : List (Lit × DataW H) → Nat
  | [] => 0
  | x :: r => uptoBulkEntry x + uptoBulkEntries r
def uptoBulkEntry {H : Type} : Lit × DataW H → Nat
  | (.string bytes, d) => bytes.length + uptoBulk d + 1
  | (_, d) => uptoBulk d + 1
 end
def uptoSmall : (H : Type) → List (DataW H) → Bool := fun _ ds => decide (uptoBulkAll ds ≤ 1048576)
def OpenSpec.upto (s : _root_.Go.ChangeSpec) : _root_.Go.OpenSpec := { _root_.Go.OpenSpec.ofChange s with cond := some uptoSmall }

/-- 'accountinglaw32.ItemsCheck', WHERE WHAT IT READS IS OF BULK AT MOST 1048576: true; the input reads as it did. -/
def itemsCheckUptoRow : OpenClaim := { program := "ytoppdlideonjjaa", sum := "1716ecaf2970b8226b3299e99f1e21db3c5794ea2fe0efd3b494f56a6a0d2fb8", func := "accounting/accountinglaw32.ItemsCheck", spec := "itemsCheck", unfollowed := true, recurses := true, apart := false, narrowed := true }
def ItemsCheckUptoSaid : Prop := itemsCheckUptoRow.holds Try.pinned (OpenSpec.upto itemsCheckSpec)

/-- 'accountinglaw32.ItemsConverts', WHERE WHAT IT READS IS OF BULK AT MOST 1048576: true; the input reads as it did. -/
def itemsConvertsUptoRow : OpenClaim := { program := "ytoppdlideonjjaa", sum := "1716ecaf2970b8226b3299e99f1e21db3c5794ea2fe0efd3b494f56a6a0d2fb8", func := "accounting/accountinglaw32.ItemsConverts", spec := "itemsConverts", unfollowed := true, recurses := true, apart := false, narrowed := true }
def ItemsConvertsUptoSaid : Prop := itemsConvertsUptoRow.holds Try.pinned (OpenSpec.upto itemsConvertsSpec)

/-- 'accountinglaw32.ItemsRoundTrip', WHERE WHAT IT READS IS OF BULK AT MOST 1048576: true; the input reads as it did. -/
def itemsRoundTripUptoRow : OpenClaim := { program := "ytoppdlideonjjaa", sum := "1716ecaf2970b8226b3299e99f1e21db3c5794ea2fe0efd3b494f56a6a0d2fb8", func := "accounting/accountinglaw32.ItemsRoundTrip", spec := "itemsRoundTrip", unfollowed := true, recurses := true, apart := false, narrowed := true }
def ItemsRoundTripUptoSaid : Prop := itemsRoundTripUptoRow.holds Try.pinned (OpenSpec.upto itemsRoundTripSpec)

/-- 'accountinglaw32.ItemsAdds', WHERE WHAT IT READS IS OF BULK AT MOST 1048576: true; the input reads as it did. -/
def itemsAddsUptoRow : OpenClaim := { program := "ytoppdlideonjjaa", sum := "1716ecaf2970b8226b3299e99f1e21db3c5794ea2fe0efd3b494f56a6a0d2fb8", func := "accounting/accountinglaw32.ItemsAdds", spec := "itemsAdds", unfollowed := true, recurses := true, apart := false, narrowed := true }
def ItemsAddsUptoSaid : Prop := itemsAddsUptoRow.holds Try.pinned (OpenSpec.upto itemsAddsSpec)

/-- 'accountinglaw32.ItemsBase', WHERE WHAT IT READS IS OF BULK AT MOST 1048576: true; the input reads as it did. -/
def itemsBaseUptoRow : OpenClaim := { program := "ytoppdlideonjjaa", sum := "1716ecaf2970b8226b3299e99f1e21db3c5794ea2fe0efd3b494f56a6a0d2fb8", func := "accounting/accountinglaw32.ItemsBase", spec := "itemsBase", unfollowed := true, recurses := true, apart := false, narrowed := true }
def ItemsBaseUptoSaid : Prop := itemsBaseUptoRow.holds Try.pinned (OpenSpec.upto itemsBaseSpec)

/-- 'accountinglaw32.ItemsLists', WHERE WHAT IT READS IS OF BULK AT MOST 1048576: true; the input reads as it did. -/
def itemsListsUptoRow : OpenClaim := { program := "ytoppdlideonjjaa", sum := "1716ecaf2970b8226b3299e99f1e21db3c5794ea2fe0efd3b494f56a6a0d2fb8", func := "accounting/accountinglaw32.ItemsLists", spec := "itemsLists", unfollowed := true, recurses := true, apart := false, narrowed := true }
def ItemsListsUptoSaid : Prop := itemsListsUptoRow.holds Try.pinned (OpenSpec.upto itemsListsSpec)

/-- 'accountinglaw32.ItemsOwn', WHERE WHAT IT READS IS OF BULK AT MOST 1048576: true; the input reads as it did. -/
def itemsOwnUptoRow : OpenClaim := { program := "ytoppdlideonjjaa", sum := "1716ecaf2970b8226b3299e99f1e21db3c5794ea2fe0efd3b494f56a6a0d2fb8", func := "accounting/accountinglaw32.ItemsOwn", spec := "itemsOwn", unfollowed := true, recurses := true, apart := false, narrowed := true }
def ItemsOwnUptoSaid : Prop := itemsOwnUptoRow.holds Try.pinned (OpenSpec.upto itemsOwnSpec)

/-- 'accountinglaw32.ItemsNil', WHERE WHAT IT READS IS OF BULK AT MOST 1048576: true; the input reads as it did. -/
def itemsNilUptoRow : OpenClaim := { program := "ytoppdlideonjjaa", sum := "1716ecaf2970b8226b3299e99f1e21db3c5794ea2fe0efd3b494f56a6a0d2fb8", func := "accounting/accountinglaw32.ItemsNil", spec := "itemsNil", unfollowed := true, recurses := true, apart := false, narrowed := true }
def ItemsNilUptoSaid : Prop := itemsNilUptoRow.holds Try.pinned (OpenSpec.upto itemsNilSpec)

/-- 'accountinglaw32.ItemsInverse', WHERE WHAT IT READS IS OF BULK AT MOST 1048576: true; the input reads as it did. -/
def itemsInverseUptoRow : OpenClaim := { program := "ytoppdlideonjjaa", sum := "1716ecaf2970b8226b3299e99f1e21db3c5794ea2fe0efd3b494f56a6a0d2fb8", func := "accounting/accountinglaw32.ItemsInverse", spec := "itemsInverse", unfollowed := true, recurses := true, apart := false, narrowed := true }
def ItemsInverseUptoSaid : Prop := itemsInverseUptoRow.holds Try.pinned (OpenSpec.upto itemsInverseSpec)

end Rows
end Go.Proofs.Ytoppdlideonjjaa
