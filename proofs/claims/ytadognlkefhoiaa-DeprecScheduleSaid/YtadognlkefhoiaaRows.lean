/-
  No cell of these rows narrows 'for every input' (looked for: loops, veiled, ifaces, maps, wideKeys, modest, calm, conditions, laid).
  DERIVED. THE GIVEN ROWS OF THIS SEAT. 6 by the template 'for every input the law returns true; each argument reads behind the call as it read before'; 0 by the template 'total and deterministic' (their statements: YtadognlkefhoiaaTotals.lean).
  GIVEN WITH THE SEED: the statements are not yours to turn. If you find one false, say at which input.
  Laid BY PROGRAM, IN A SANDBOX (cutbox-rows.mjs): the forced cells as the released guide's own fill.sh prints them over the translation c4ade1c5c0d00270… (all of the seat's roots in one cut). By AI agents, Wed Nov 11 2026. No macro, syntax, notation, axiom, sorry.
-/
import Derived.Test.YtadognlkefhoiaaChecked
import GoSem.Claim
import GoSem.ClaimJoined
import GoSem.ClaimMapViews
import Derived.JoinedTies
import Derived.KernelRfl
namespace Go.Proofs.Ytadognlkefhoiaa
/- THE CELL 'sum', in the pinned program and in every row, IS THE sha256 OF THE DUMP (.gsa) THAT YtadognlkefhoiaaProg.lean LOADS. Nothing in Lean hashes anything: it is a label: what it is worth is what the hold of that sum in a sandbox is worth. -/
noncomputable def Try.pinned : Pinned := { name := "ytadognlkefhoiaa", sum := "c4ade1c5c0d00270f85b9c5c8cd640ffd300c7e5f65abf1c111e99c466b7d31a", checked := Try.checked }
namespace Rows
def none {H : Type} : Left H := { results := [], args := [] }

/-- 'accountinglaw30.DeprecCheck': WHATEVER THE INPUT: true; the input reads as it did. -/
def deprecCheckSpec : ChangeSpec := { name := "deprecCheck", fn := fun _ => fun
  | [d] => { results := [.lit (.bool true)], args := [d] }
  | _ => none }
def deprecCheckRow : OpenClaim := { program := "ytadognlkefhoiaa", sum := "c4ade1c5c0d00270f85b9c5c8cd640ffd300c7e5f65abf1c111e99c466b7d31a", func := "accounting/accountinglaw30.DeprecCheck", spec := "deprecCheck", unfollowed := true, recurses := true, apart := false }
def DeprecCheckSaid : Prop := deprecCheckRow.holds Try.pinned (OpenSpec.ofChange deprecCheckSpec)

/-- ITS FALSE NEIGHBOUR: 'it returns false'. Refute it at one input. -/
def deprecCheckWrong : ChangeSpec := { name := "deprecCheck", fn := fun _ => fun
  | [d] => { results := [.lit (.bool false)], args := [d] }
  | _ => none }
def DeprecCheckWrongFalsely : Prop := deprecCheckRow.holds Try.pinned (OpenSpec.ofChange deprecCheckWrong)

/-- 'accountinglaw30.DeprecSchedule': WHATEVER THE INPUT: true; the input reads as it did. -/
def deprecScheduleSpec : ChangeSpec := { name := "deprecSchedule", fn := fun _ => fun
  | [d] => { results := [.lit (.bool true)], args := [d] }
  | _ => none }
def deprecScheduleRow : OpenClaim := { program := "ytadognlkefhoiaa", sum := "c4ade1c5c0d00270f85b9c5c8cd640ffd300c7e5f65abf1c111e99c466b7d31a", func := "accounting/accountinglaw30.DeprecSchedule", spec := "deprecSchedule", unfollowed := true, recurses := true, apart := false }
def DeprecScheduleSaid : Prop := deprecScheduleRow.holds Try.pinned (OpenSpec.ofChange deprecScheduleSpec)

/-- ITS FALSE NEIGHBOUR: 'it returns false'. Refute it at one input. -/
def deprecScheduleWrong : ChangeSpec := { name := "deprecSchedule", fn := fun _ => fun
  | [d] => { results := [.lit (.bool false)], args := [d] }
  | _ => none }
def DeprecScheduleWrongFalsely : Prop := deprecScheduleRow.holds Try.pinned (OpenSpec.ofChange deprecScheduleWrong)

/-- 'accountinglaw30.DeprecAfter': WHATEVER THE INPUT: true; the input reads as it did. -/
def deprecAfterSpec : ChangeSpec := { name := "deprecAfter", fn := fun _ => fun
  | [d1, d2] => { results := [.lit (.bool true)], args := [d1, d2] }
  | _ => none }
def deprecAfterRow : OpenClaim := { program := "ytadognlkefhoiaa", sum := "c4ade1c5c0d00270f85b9c5c8cd640ffd300c7e5f65abf1c111e99c466b7d31a", func := "accounting/accountinglaw30.DeprecAfter", spec := "deprecAfter", unfollowed := true, recurses := true, apart := false }
def DeprecAfterSaid : Prop := deprecAfterRow.holds Try.pinned (OpenSpec.ofChange deprecAfterSpec)

/-- ITS FALSE NEIGHBOUR: 'it returns false'. Refute it at one input. -/
def deprecAfterWrong : ChangeSpec := { name := "deprecAfter", fn := fun _ => fun
  | [d1, d2] => { results := [.lit (.bool false)], args := [d1, d2] }
  | _ => none }
def DeprecAfterWrongFalsely : Prop := deprecAfterRow.holds Try.pinned (OpenSpec.ofChange deprecAfterWrong)

/-- 'accountinglaw30.DeprecSums': WHATEVER THE INPUT: true; the input reads as it did. -/
def deprecSumsSpec : ChangeSpec := { name := "deprecSums", fn := fun _ => fun
  | [d] => { results := [.lit (.bool true)], args := [d] }
  | _ => none }
def deprecSumsRow : OpenClaim := { program := "ytadognlkefhoiaa", sum := "c4ade1c5c0d00270f85b9c5c8cd640ffd300c7e5f65abf1c111e99c466b7d31a", func := "accounting/accountinglaw30.DeprecSums", spec := "deprecSums", unfollowed := true, recurses := true, apart := false }
def DeprecSumsSaid : Prop := deprecSumsRow.holds Try.pinned (OpenSpec.ofChange deprecSumsSpec)

/-- ITS FALSE NEIGHBOUR: 'it returns false'. Refute it at one input. -/
def deprecSumsWrong : ChangeSpec := { name := "deprecSums", fn := fun _ => fun
  | [d] => { results := [.lit (.bool false)], args := [d] }
  | _ => none }
def DeprecSumsWrongFalsely : Prop := deprecSumsRow.holds Try.pinned (OpenSpec.ofChange deprecSumsWrong)

/-- 'accountinglaw30.DeprecStraight': WHATEVER THE INPUT: true; the input reads as it did. -/
def deprecStraightSpec : ChangeSpec := { name := "deprecStraight", fn := fun _ => fun
  | [d1, d2, d3] => { results := [.lit (.bool true)], args := [d1, d2, d3] }
  | _ => none }
def deprecStraightRow : OpenClaim := { program := "ytadognlkefhoiaa", sum := "c4ade1c5c0d00270f85b9c5c8cd640ffd300c7e5f65abf1c111e99c466b7d31a", func := "accounting/accountinglaw30.DeprecStraight", spec := "deprecStraight", unfollowed := true, recurses := true, apart := false }
def DeprecStraightSaid : Prop := deprecStraightRow.holds Try.pinned (OpenSpec.ofChange deprecStraightSpec)

/-- ITS FALSE NEIGHBOUR: 'it returns false'. Refute it at one input. -/
def deprecStraightWrong : ChangeSpec := { name := "deprecStraight", fn := fun _ => fun
  | [d1, d2, d3] => { results := [.lit (.bool false)], args := [d1, d2, d3] }
  | _ => none }
def DeprecStraightWrongFalsely : Prop := deprecStraightRow.holds Try.pinned (OpenSpec.ofChange deprecStraightWrong)

/-- 'accountinglaw30.DeprecOther': WHATEVER THE INPUT: true; the input reads as it did. -/
def deprecOtherSpec : ChangeSpec := { name := "deprecOther", fn := fun _ => fun
  | [d1, d2, d3] => { results := [.lit (.bool true)], args := [d1, d2, d3] }
  | _ => none }
def deprecOtherRow : OpenClaim := { program := "ytadognlkefhoiaa", sum := "c4ade1c5c0d00270f85b9c5c8cd640ffd300c7e5f65abf1c111e99c466b7d31a", func := "accounting/accountinglaw30.DeprecOther", spec := "deprecOther", unfollowed := true, recurses := true, apart := false }
def DeprecOtherSaid : Prop := deprecOtherRow.holds Try.pinned (OpenSpec.ofChange deprecOtherSpec)

/-- ITS FALSE NEIGHBOUR: 'it returns false'. Refute it at one input. -/
def deprecOtherWrong : ChangeSpec := { name := "deprecOther", fn := fun _ => fun
  | [d1, d2, d3] => { results := [.lit (.bool false)], args := [d1, d2, d3] }
  | _ => none }
def DeprecOtherWrongFalsely : Prop := deprecOtherRow.holds Try.pinned (OpenSpec.ofChange deprecOtherWrong)

/- THE SECOND FORM. 'bulk': how many values and letters a reading holds, each counted each time it is reached (what is shared counts as often as it is met; a slice's spare places count too). A statement '..UptoSaid' is the law's where the arguments, and the package variables that the reading takes, are together of bulk at most 1048576: NARROWER than '..Said'. Prove '..Said' where nothing that the law and all that it calls make is longer than what came in: it says more and counts as full. Else prove '..UptoSaid'. A law counts once. -/
mutual
def uptoBulk {H : Type} : DataW H → Nat
  | .lit (.string bytes) => bytes.length + 1
  | .lit _ => 1
  | .nil => 1
  | .ptr d => uptoBulk d + 1
  | .slice elems spare => uptoBulkAll elems + uptoBulkAll spare + 1
  | .agg parts => uptoBulkAll parts + 1
  | .iface _ d => uptoBulk d + 1
  | .map entries => uptoBulkEntries entries + 1
  | .held _ => 1
def uptoBulkAll {H : Type} : List (DataW H) → Nat
  | [] => 0
  | d :: r => uptoBulk d + uptoBulkAll r
def uptoBulkEntries {H : Type} : List (Lit × DataW H) → Nat
  | [] => 0
  | x :: r => uptoBulkEntry x + uptoBulkEntries r
def uptoBulkEntry {H : Type} : Lit × DataW H → Nat
  | (.string bytes, d) => bytes.length + uptoBulk d + 1
  | (_, d) => uptoBulk d + 1
 end
def uptoSmall : (H : Type) → List (DataW H) → Bool := fun _ ds => decide (uptoBulkAll ds ≤ 1048576)
def OpenSpec.upto (s : _root_.Go.ChangeSpec) : _root_.Go.OpenSpec := { _root_.Go.OpenSpec.ofChange s with cond := some uptoSmall }

/-- 'accountinglaw30.DeprecCheck', WHERE WHAT IT READS IS OF BULK AT MOST 1048576: true; the input reads as it did. -/
def deprecCheckUptoRow : OpenClaim := { program := "ytadognlkefhoiaa", sum := "c4ade1c5c0d00270f85b9c5c8cd640ffd300c7e5f65abf1c111e99c466b7d31a", func := "accounting/accountinglaw30.DeprecCheck", spec := "deprecCheck", unfollowed := true, recurses := true, apart := false, narrowed := true }
def DeprecCheckUptoSaid : Prop := deprecCheckUptoRow.holds Try.pinned (OpenSpec.upto deprecCheckSpec)

/-- 'accountinglaw30.DeprecSchedule', WHERE WHAT IT READS IS OF BULK AT MOST 1048576: true; the input reads as it did. -/
def deprecScheduleUptoRow : OpenClaim := { program := "ytadognlkefhoiaa", sum := "c4ade1c5c0d00270f85b9c5c8cd640ffd300c7e5f65abf1c111e99c466b7d31a", func := "accounting/accountinglaw30.DeprecSchedule", spec := "deprecSchedule", unfollowed := true, recurses := true, apart := false, narrowed := true }
def DeprecScheduleUptoSaid : Prop := deprecScheduleUptoRow.holds Try.pinned (OpenSpec.upto deprecScheduleSpec)

/-- 'accountinglaw30.DeprecAfter', WHERE WHAT IT READS IS OF BULK AT MOST 1048576: true; the input reads as it did. -/
def deprecAfterUptoRow : OpenClaim := { program := "ytadognlkefhoiaa", sum := "c4ade1c5c0d00270f85b9c5c8cd640ffd300c7e5f65abf1c111e99c466b7d31a", func := "accounting/accountinglaw30.DeprecAfter", spec := "deprecAfter", unfollowed := true, recurses := true, apart := false, narrowed := true }
def DeprecAfterUptoSaid : Prop := deprecAfterUptoRow.holds Try.pinned (OpenSpec.upto deprecAfterSpec)

/-- 'accountinglaw30.DeprecSums', WHERE WHAT IT READS IS OF BULK AT MOST 1048576: true; the input reads as it did. -/
def deprecSumsUptoRow : OpenClaim := { program := "ytadognlkefhoiaa", sum := "c4ade1c5c0d00270f85b9c5c8cd640ffd300c7e5f65abf1c111e99c466b7d31a", func := "accounting/accountinglaw30.DeprecSums", spec := "deprecSums", unfollowed := true, recurses := true, apart := false, narrowed := true }
def DeprecSumsUptoSaid : Prop := deprecSumsUptoRow.holds Try.pinned (OpenSpec.upto deprecSumsSpec)

/-- 'accountinglaw30.DeprecStraight', WHERE WHAT IT READS IS OF BULK AT MOST 1048576: true; the input reads as it did. -/
def deprecStraightUptoRow : OpenClaim := { program := "ytadognlkefhoiaa", sum := "c4ade1c5c0d00270f85b9c5c8cd640ffd300c7e5f65abf1c111e99c466b7d31a", func := "accounting/accountinglaw30.DeprecStraight", spec := "deprecStraight", unfollowed := true, recurses := true, apart := false, narrowed := true }
def DeprecStraightUptoSaid : Prop := deprecStraightUptoRow.holds Try.pinned (OpenSpec.upto deprecStraightSpec)

/-- 'accountinglaw30.DeprecOther', WHERE WHAT IT READS IS OF BULK AT MOST 1048576: true; the input reads as it did. -/
def deprecOtherUptoRow : OpenClaim := { program := "ytadognlkefhoiaa", sum := "c4ade1c5c0d00270f85b9c5c8cd640ffd300c7e5f65abf1c111e99c466b7d31a", func := "accounting/accountinglaw30.DeprecOther", spec := "deprecOther", unfollowed := true, recurses := true, apart := false, narrowed := true }
def DeprecOtherUptoSaid : Prop := deprecOtherUptoRow.holds Try.pinned (OpenSpec.upto deprecOtherSpec)

end Rows
end Go.Proofs.Ytadognlkefhoiaa
