/- Even returns the shares for equal weights; they fall in absolute value and differ by at most one: under no condition. Part 1 of 1 of what is the claim's own. -/
import Derived.Test.YtikglhfeookhaaaQB1
import Derived.Test.YtikglhfeookhaaaQB6
import Derived.Test.YtikglhfeookhaaaQB7
import Derived.Test.YtikglhfeookhaaaRows
import Derived.WalkKit
import Derived.ProofKit
import Derived.OpenShut
import Derived.ShutString
import Derived.ChangeOld
import Derived.Below
import Derived.SizedLaws
namespace Go.Proofs.Ytikglhfeookhaaa.M
def alEo1_0 : Array Bool := #[false, false, false, false, false, false, false, false, false, false, false, false, false, false, false, false, false, false, false, false, false, false, false, false, false, false, false, false, false, false]
def alEo1_1 : Array Bool := #[true, false, false, false, false, false, false, false, false, false, false, false, false, false, false, false, false, false, false, false, false, false, false, false, false, false, false, false, false, false]
def alEo1_2 : Array Bool := #[true, true, false, false, false, false, false, false, false, false, false, false, false, false, false, false, false, false, false, false, false, false, false, false, false, false, false, false, false, false]
def alEo1_3 : Array Bool := #[true, true, false, false, true, false, false, false, false, false, false, false, false, false, false, false, false, false, false, false, false, false, false, false, false, false, false, false, false, false]
def alEo1_4 : Array Bool := #[true, true, false, false, true, true, false, false, false, false, false, false, false, false, false, false, false, false, false, false, false, false, false, false, false, false, false, false, false, false]
def alEo1_5 : Array Bool := #[true, true, false, false, true, true, true, false, false, false, false, false, false, false, false, false, false, false, false, false, false, false, false, false, false, false, false, false, false, false]
def alEo1_6 : Array Bool := #[true, true, false, false, true, true, true, true, false, false, false, false, false, false, false, false, false, false, false, false, false, false, false, false, false, false, false, false, false, false]
def alEo1_7 : Array Bool := #[true, true, true, false, true, true, true, true, false, false, false, false, false, false, false, false, false, false, false, false, false, false, false, false, false, false, false, false, false, false]
def alEo1_8 : Array Bool := #[true, true, true, false, true, true, true, true, true, false, false, false, false, false, false, false, false, false, false, false, false, false, false, false, false, false, false, false, false, false]
def alEo1_9 : Array Bool := #[true, true, true, true, true, true, true, true, true, false, false, false, false, false, false, false, false, false, false, false, false, false, false, false, false, false, false, false, false, false]
def alEo1_10 : Array Bool := #[true, true, true, true, true, true, true, true, true, true, false, false, false, false, false, false, false, false, false, false, false, false, false, false, false, false, false, false, false, false]
def alEo1_11 : Array Bool := #[true, true, true, true, true, true, true, true, true, true, true, false, false, false, false, false, false, false, false, false, false, false, false, false, false, false, false, false, false, false]
def alEo1_12 : Array Bool := #[true, true, true, true, true, true, true, true, true, true, true, true, false, false, false, false, false, false, false, false, false, false, false, false, false, false, false, false, false, false]
def alEo1_13 : Array Bool := #[true, true, true, true, true, true, true, true, true, true, true, true, true, false, false, false, false, false, false, false, false, false, false, false, false, false, false, false, false, false]
def alEo1_14 : Array Bool := #[true, true, true, true, true, true, true, true, true, true, true, true, true, true, false, false, false, false, false, false, false, false, false, false, false, false, false, false, false, false]
def alEo1_15 : Array Bool := #[true, true, true, true, true, true, true, true, true, true, true, true, true, true, true, false, false, false, false, false, false, false, false, false, false, false, false, false, false, false]
def alEo1_16 : Array Bool := #[true, true, true, true, true, true, true, true, true, true, true, true, true, true, true, false, false, true, false, false, false, false, false, false, false, false, false, false, false, false]
def alEo1_17 : Array Bool := #[true, true, true, true, true, true, true, true, true, true, true, true, true, true, true, false, false, true, true, false, false, false, false, false, false, false, false, false, false, false]
def alEo1_18 : Array Bool := #[true, true, true, true, true, true, true, true, true, true, true, true, true, true, true, false, false, true, true, true, false, false, false, false, false, false, false, false, false, false]
def alEo1_19 : Array Bool := #[true, true, true, true, true, true, true, true, true, true, true, true, true, true, true, false, false, true, true, true, true, false, false, false, false, false, false, false, false, false]
def alEo1_20 : Array Bool := #[true, true, true, true, true, true, true, true, true, true, true, true, true, true, true, true, false, true, true, true, true, false, false, false, false, false, false, false, false, false]
def alEo1_21 : Array Bool := #[true, true, true, true, true, true, true, true, true, true, true, true, true, true, true, true, false, true, true, true, true, true, false, false, false, false, false, false, false, false]
def alEo1_22 : Array Bool := #[true, true, true, true, true, true, true, true, true, true, true, true, true, true, true, true, true, true, true, true, true, true, false, false, false, false, false, false, false, false]
def alEo1_23 : Array Bool := #[true, true, true, true, true, true, true, true, true, true, true, true, true, true, true, true, true, true, true, true, true, true, true, false, false, false, false, false, false, false]
def alEo1_24 : Array Bool := #[true, true, true, true, true, true, true, true, true, true, true, true, true, true, true, true, true, true, true, true, true, true, true, true, false, false, false, false, false, false]
def alEo1_25 : Array Bool := #[true, true, true, true, true, true, true, true, true, true, true, true, true, true, true, true, true, true, true, true, true, true, true, true, true, false, false, false, false, false]
def alEo1_26 : Array Bool := #[true, true, true, true, true, true, true, true, true, true, true, true, true, true, true, true, true, true, true, true, true, true, true, true, true, true, false, false, false, false]
def alEo1_27 : Array Bool := #[true, true, true, true, true, true, true, true, true, true, true, true, true, true, true, true, true, true, true, true, true, true, true, true, true, true, true, false, false, false]
def alEo1_28 : Array Bool := #[true, true, true, true, true, true, true, true, true, true, true, true, true, true, true, true, true, true, true, true, true, true, true, true, true, true, true, true, false, false]
def alEo1_29 : Array Bool := #[true, true, true, true, true, true, true, true, true, true, true, true, true, true, true, true, true, true, true, true, true, true, true, true, true, true, true, true, true, false]
def alEo1_30 : Array Bool := #[true, true, true, true, true, true, true, true, true, true, true, true, true, true, true, true, true, true, true, true, true, true, true, true, true, true, true, true, true, true]
end Go.Proofs.Ytikglhfeookhaaa.M
section
-- Written by mprint.py (a program of this session) over the kit's print.
namespace Go.Proofs.Ytikglhfeookhaaa.M
open Go.RowKit Go.Proofs.YtikglhfeookhaaaW.PrintWords Go.Proofs.YtikglhfeookhaaaW.PrintLast Go.Proofs.YtikglhfeookhaaaW.PrintMore
attribute [local go_sem] max2_int min2_int max_two min_two max_three min_three max_four min_four   -- for this text's walks alone
set_option linter.unusedVariables false
set_option linter.unusedSimpArgs false

/-! ### accountinglaw08_size: function 19 -/
def accountinglaw08_size.f (a0 : Int) : Option (Int) := if a0 < 0 then (some (wrap64 (-a0))) else (some a0)
set_option maxHeartbeats 8000000 in
set_option maxRecDepth 100000 in
theorem accountinglaw08_size.calls (a0 : Int) (r : Int) (w : World) (h : accountinglaw08_size.f a0 = some r) :
    Calls Try.prog 19 #[.int .i64 a0] w fun e w' => e = .returned (.int .i64 r) ∧ Drawn0 w w' := by
 have H : (if a0 < 0 then (some (wrap64 (-a0))) else (some a0)) = some r := h
 clear h
 by_cases c2 : a0 < 0
 ·rw [if_pos c2] at H
  have c2b0 : decide (a0 < 0) = true := decide_eq_true c2
  clear c2
  obtain rfl := Option.some.inj H
  go_enter Try.func19, Try.ntmps19
  go_wp2
  go_ret
  exact ⟨by first | rfl | (simp; done) | (simp [*]; done), by repeat (first | exact Drawn0.refl _ | apply Drawn0.step)⟩
 ·rw [if_neg c2] at H
  have c2b0 : decide (a0 < 0) = false := decide_eq_false c2
  clear c2
  obtain rfl := Option.some.inj H
  go_enter Try.func19, Try.ntmps19
  go_wp2
  go_ret
  exact ⟨by first | rfl | (simp; done) | (simp [*]; done), by repeat (first | exact Drawn0.refl _ | apply Drawn0.step)⟩

end Go.Proofs.Ytikglhfeookhaaa.M
end
section
-- Written by mprint.py (a program of this session) over the kit's print.
namespace Go.Proofs.Ytikglhfeookhaaa.M
open Go.RowKit Go.Proofs.YtikglhfeookhaaaW.PrintWords Go.Proofs.YtikglhfeookhaaaW.PrintLast Go.Proofs.YtikglhfeookhaaaW.PrintMore
attribute [local go_sem] max2_int min2_int max_two min_two max_three min_three max_four min_four   -- for this text's walks alone
set_option linter.unusedVariables false
set_option linter.unusedSimpArgs false

/-! ### accountinglaw08_SplitEvenOnes: function 9 -/
mutual
def accountinglaw08_SplitEvenOnes.j0 : Nat → Int → Int → Int → List Int → Int → Bool → Option (Bool)
  | 0, _, _, _, _, _, _ => none
  | k + 1, x0, x1, x2, x7, x8, x36 => if x36 = true then (if x8 = 0 then ((accountinglaw08_lives.f k).bind fun t105 => (some t105)) else (if (x7.length : Int) = 0 then ((accountinglaw08_lives.f k).bind fun t106 => (some t106)) else (some false))) else (accountinglaw08_SplitEvenOnes.l0 k x0 x1 x2 x7 (([] : List Int)) 0)
def accountinglaw08_SplitEvenOnes.l0 : Nat → Int → Int → Int → List Int → List Int → Int → Option (Bool)
  | 0, _, _, _, _, _, _ => none
  | k + 1, x0, x1, x2, x7, x9, x10 => if x10 < x1 then (if x9.length < 17592186044416 then (accountinglaw08_SplitEvenOnes.l0 k x0 x1 x2 x7 (x9 ++ [x2]) (wrap64 (x10 + 1))) else (none)) else ((split_Shares.f k x0 x9).bind fun bt113 => (if bt113.2 = 0 then ((accountingref08_Same.f k x7 bt113.1).bind fun t117 => (if t117 = true then (accountinglaw08_SplitEvenOnes.j2 k x1 x7 ((x7.length : Int) != x1)) else (accountinglaw08_SplitEvenOnes.j2 k x1 x7 true))) else (accountinglaw08_SplitEvenOnes.j2 k x1 x7 true)))
def accountinglaw08_SplitEvenOnes.j2 : Nat → Int → List Int → Bool → Option (Bool)
  | 0, _, _, _ => none
  | k + 1, x1, x7, x76 => if x76 = true then (some false) else (if 0 < (x7.length : Int) then ((accountinglaw08_size.f (rd x7 0)).bind fun t119 => (if 0 ≤ (wrap64 (x1 - 1)) then (if (wrap64 (x1 - 1)) < (x7.length : Int) then ((accountinglaw08_size.f (rd x7 (wrap64 (x1 - 1)))).bind fun t121 => (if (wrap64 (t119 - t121)) ≥ 0 then ((accountinglaw08_size.f (rd x7 0)).bind fun t123 => ((accountinglaw08_size.f (rd x7 (wrap64 (x1 - 1)))).bind fun t125 => (if (wrap64 (t123 - t125)) ≤ 1 then ((accountinglaw08_lives.f k).bind fun t126 => (some t126)) else (some false)))) else (some false))) else (none)) else (none))) else (none))
end
def accountinglaw08_SplitEvenOnes.f (k : Nat) (a0 : Int) (a1 : Int) (a2 : Int) : Option (Bool) := (split_Even.f k a0 a1).bind fun bt101 => (if a1 < 1 then (accountinglaw08_SplitEvenOnes.j0 k a0 a1 a2 bt101.1 bt101.2 true) else (if a1 > 200 then (accountinglaw08_SplitEvenOnes.j0 k a0 a1 a2 bt101.1 bt101.2 true) else (if a2 < 1 then (accountinglaw08_SplitEvenOnes.j0 k a0 a1 a2 bt101.1 bt101.2 true) else (if a2 > 1000000 then (accountinglaw08_SplitEvenOnes.j0 k a0 a1 a2 bt101.1 bt101.2 true) else (accountinglaw08_SplitEvenOnes.j0 k a0 a1 a2 bt101.1 bt101.2 (bt101.2 != 0))))))
theorem accountinglaw08_SplitEvenOnes.mono_l : ∀ k, (∀ y0 y1 y2 y3 y4 y5, LeO (accountinglaw08_SplitEvenOnes.j0 k y0 y1 y2 y3 y4 y5) (accountinglaw08_SplitEvenOnes.j0 (k + 1) y0 y1 y2 y3 y4 y5)) ∧ (∀ y0 y1 y2 y3 y4 y5, LeO (accountinglaw08_SplitEvenOnes.l0 k y0 y1 y2 y3 y4 y5) (accountinglaw08_SplitEvenOnes.l0 (k + 1) y0 y1 y2 y3 y4 y5)) ∧ (∀ y0 y1 y2, LeO (accountinglaw08_SplitEvenOnes.j2 k y0 y1 y2) (accountinglaw08_SplitEvenOnes.j2 (k + 1) y0 y1 y2))
  | 0 => ⟨fun _ _ _ _ _ _ r h => by simp [accountinglaw08_SplitEvenOnes.j0] at h, fun _ _ _ _ _ _ r h => by simp [accountinglaw08_SplitEvenOnes.l0] at h, fun _ _ _ r h => by simp [accountinglaw08_SplitEvenOnes.j2] at h⟩
  | k + 1 => by
    obtain ⟨ih0, ih1, ih2⟩ := accountinglaw08_SplitEvenOnes.mono_l k
    refine ⟨?_, ?_, ?_⟩
    · intro y0 y1 y2 y3 y4 y5
      unfold accountinglaw08_SplitEvenOnes.j0
      repeat' first
      | (with_reducible exact ih0 _ _ _ _ _ _)
      | (with_reducible exact ih1 _ _ _ _ _ _)
      | (with_reducible exact ih2 _ _ _)
      | (with_reducible exact accountinglaw08_lives.mono _)
      | (with_reducible exact accountingref08_Same.mono _ _ _)
      | (with_reducible exact split_Even.mono _ _ _)
      | (with_reducible exact split_Shares.mono _ _ _)
      | (with_reducible exact LeO.refl _)
      | (with_reducible exact LeO.none _)
      | (with_reducible refine LeO.ite ?_ ?_)
      | (with_reducible refine LeO.bind ?_ (fun _ => ?_))
      | exact ih0 _ _ _ _ _ _
      | exact ih1 _ _ _ _ _ _
      | exact ih2 _ _ _
      | exact accountinglaw08_lives.mono _
      | exact accountingref08_Same.mono _ _ _
      | exact split_Even.mono _ _ _
      | exact split_Shares.mono _ _ _
      | exact LeO.none _
      | refine LeO.ite ?_ ?_
      | refine LeO.bind ?_ (fun _ => ?_)
    · intro y0 y1 y2 y3 y4 y5
      unfold accountinglaw08_SplitEvenOnes.l0
      repeat' first
      | (with_reducible exact ih0 _ _ _ _ _ _)
      | (with_reducible exact ih1 _ _ _ _ _ _)
      | (with_reducible exact ih2 _ _ _)
      | (with_reducible exact accountinglaw08_lives.mono _)
      | (with_reducible exact accountingref08_Same.mono _ _ _)
      | (with_reducible exact split_Even.mono _ _ _)
      | (with_reducible exact split_Shares.mono _ _ _)
      | (with_reducible exact LeO.refl _)
      | (with_reducible exact LeO.none _)
      | (with_reducible refine LeO.ite ?_ ?_)
      | (with_reducible refine LeO.bind ?_ (fun _ => ?_))
      | exact ih0 _ _ _ _ _ _
      | exact ih1 _ _ _ _ _ _
      | exact ih2 _ _ _
      | exact accountinglaw08_lives.mono _
      | exact accountingref08_Same.mono _ _ _
      | exact split_Even.mono _ _ _
      | exact split_Shares.mono _ _ _
      | exact LeO.none _
      | refine LeO.ite ?_ ?_
      | refine LeO.bind ?_ (fun _ => ?_)
    · intro y0 y1 y2
      unfold accountinglaw08_SplitEvenOnes.j2
      repeat' first
      | (with_reducible exact ih0 _ _ _ _ _ _)
      | (with_reducible exact ih1 _ _ _ _ _ _)
      | (with_reducible exact ih2 _ _ _)
      | (with_reducible exact accountinglaw08_lives.mono _)
      | (with_reducible exact accountingref08_Same.mono _ _ _)
      | (with_reducible exact split_Even.mono _ _ _)
      | (with_reducible exact split_Shares.mono _ _ _)
      | (with_reducible exact LeO.refl _)
      | (with_reducible exact LeO.none _)
      | (with_reducible refine LeO.ite ?_ ?_)
      | (with_reducible refine LeO.bind ?_ (fun _ => ?_))
      | exact ih0 _ _ _ _ _ _
      | exact ih1 _ _ _ _ _ _
      | exact ih2 _ _ _
      | exact accountinglaw08_lives.mono _
      | exact accountingref08_Same.mono _ _ _
      | exact split_Even.mono _ _ _
      | exact split_Shares.mono _ _ _
      | exact LeO.none _
      | refine LeO.ite ?_ ?_
      | refine LeO.bind ?_ (fun _ => ?_)
theorem accountinglaw08_SplitEvenOnes.mono : ∀ a0 a1 a2 k, LeO (accountinglaw08_SplitEvenOnes.f k a0 a1 a2) (accountinglaw08_SplitEvenOnes.f (k + 1) a0 a1 a2) := by
 intro a0 a1 a2 k
 obtain ⟨ih0, ih1, ih2⟩ := accountinglaw08_SplitEvenOnes.mono_l k
 unfold accountinglaw08_SplitEvenOnes.f
 repeat' first
   | (with_reducible exact ih0 _ _ _ _ _ _)
   | (with_reducible exact ih1 _ _ _ _ _ _)
   | (with_reducible exact ih2 _ _ _)
   | (with_reducible exact accountinglaw08_lives.mono _)
   | (with_reducible exact accountingref08_Same.mono _ _ _)
   | (with_reducible exact split_Even.mono _ _ _)
   | (with_reducible exact split_Shares.mono _ _ _)
   | (with_reducible exact LeO.refl _)
   | (with_reducible exact LeO.none _)
   | (with_reducible refine LeO.ite ?_ ?_)
   | (with_reducible refine LeO.bind ?_ (fun _ => ?_))
   | exact ih0 _ _ _ _ _ _
   | exact ih1 _ _ _ _ _ _
   | exact ih2 _ _ _
   | exact accountinglaw08_lives.mono _
   | exact accountingref08_Same.mono _ _ _
   | exact split_Even.mono _ _ _
   | exact split_Shares.mono _ _ _
   | exact LeO.none _
   | refine LeO.ite ?_ ?_
   | refine LeO.bind ?_ (fun _ => ?_)
def accountinglaw08_SplitEvenOnes.T12 : Bool × List (List Nat × List Nat) := (true, [([], []), ([0], [0]), ([1], [1]), ([2], [2]), ([], []), ([], []), ([5], [5]), ([4, 6], [4, 6]), ([7], [7]), ([8, 3], [8]), ([3, 9], [3, 9]), ([10], [10]), ([11, 9], [11]), ([12], [12]), ([13, 12], [12, 13]), ([14, 12], [12, 14]), ([15, 12, 12], [12, 15]), ([12], [12]), ([12], [12]), ([18, 12], [12, 18]), ([17, 19, 12], [12, 17, 19]), ([20, 12], [12, 20]), ([21, 16, 12], [12, 21]), ([16, 22, 12], [12, 16, 22]), ([23, 12], [12, 23]), ([12, 24], [12, 24]), ([25, 22], [25]), ([26, 26], [26]), ([26, 27], [26, 27]), ([28, 27, 0, 1, 2, 3, 4, 5, 6, 7, 8, 9, 10, 11, 12, 13, 14, 15, 16, 17, 18, 19, 20, 21, 22, 23, 24, 25, 26, 27, 28], [28])])
def accountinglaw08_SplitEvenOnes.B12 : List Nat := [0, 1, 3, 7, 0, 0, 32, 112, 240, 511, 1023, 2047, 4095, 8191, 16383, 32767, 65535, 8191, 8191, 270335, 925695, 1974271, 4194303, 8388607, 16777215, 33554431, 67108863, 134217727, 268435455, 536870911]
theorem accountinglaw08_SplitEvenOnes.tab12 : rtab .any (opsOf Try.f9 12) = accountinglaw08_SplitEvenOnes.T12 := by kernel_rfl
theorem accountinglaw08_SplitEvenOnes.bits12 : waitsOk accountinglaw08_SplitEvenOnes.T12.2 accountinglaw08_SplitEvenOnes.B12 = true := by kernel_rfl
set_option maxHeartbeats 8000000 in
set_option maxRecDepth 100000 in
theorem accountinglaw08_SplitEvenOnes.calls (k : Nat) (a0 : Int) (a1 : Int) (a2 : Int) (r : Bool) (w : World) (h : accountinglaw08_SplitEvenOnes.f k a0 a1 a2 = some r) :
    Calls Try.prog 9 #[.int .i64 a0, .int .i64 a1, .int .i64 a2] w fun e w' => e = .returned (.bool r) ∧ Below w.heap.size w w' := by
 have hu3 := Try.underlying3
 have HB := Aside0.mk (Below.refl w.heap.size w)
 have H : ((split_Even.f k a0 a1).bind fun bt101 => (if a1 < 1 then (accountinglaw08_SplitEvenOnes.j0 k a0 a1 a2 bt101.1 bt101.2 true) else (if a1 > 200 then (accountinglaw08_SplitEvenOnes.j0 k a0 a1 a2 bt101.1 bt101.2 true) else (if a2 < 1 then (accountinglaw08_SplitEvenOnes.j0 k a0 a1 a2 bt101.1 bt101.2 true) else (if a2 > 1000000 then (accountinglaw08_SplitEvenOnes.j0 k a0 a1 a2 bt101.1 bt101.2 true) else (accountinglaw08_SplitEvenOnes.j0 k a0 a1 a2 bt101.1 bt101.2 (bt101.2 != 0))))))) = some r := h
 clear h
 replace H := Option.bind_eq_some_iff.mp H
 obtain ⟨⟨t101, t102⟩, A40, H⟩ := H
 replace H : (if a1 < 1 then (accountinglaw08_SplitEvenOnes.j0 k a0 a1 a2 t101 t102 true) else (if a1 > 200 then (accountinglaw08_SplitEvenOnes.j0 k a0 a1 a2 t101 t102 true) else (if a2 < 1 then (accountinglaw08_SplitEvenOnes.j0 k a0 a1 a2 t101 t102 true) else (if a2 > 1000000 then (accountinglaw08_SplitEvenOnes.j0 k a0 a1 a2 t101 t102 true) else (accountinglaw08_SplitEvenOnes.j0 k a0 a1 a2 t101 t102 (t102 != 0)))))) = some r := H
 have A4 := Aside0.mk A40
 clear A40
 have HC5 := Aside0.mk H
 clear H
 go_enter Try.func9, Try.ntmps9
 go_upto_region 2 with (first | ((with_reducible refine gate_callee (f := 16) rfl ?_); refine goesL_ (some 16) rfl rfl Try.func16 (by kernel_rfl) rfl #[.int .i64 a0, .int .i64 a1] rfl (by (try simp only [List.map_toArray, List.map_cons, List.map_nil]); first | done | rfl | (simp only [List.length_drop, List.length_take]; rfl)) ?_; (with_reducible refine (split_Even.calls k a0 a1 t101 t102 _ A4.out).mono ?_); rintro e w6 ⟨v103, rfl, ho0, hb⟩; refine ⟨_, rfl, ?_⟩; have n0_ := Aside0.mk (Kd.R_lower ho0 (below_size (by repeat (first | (with_reducible first | exact HB.out | apply below_alloc | apply pw_below_drewN | apply below_drew1) | exact HB.out)))); have n1_ := Aside0.mk (below_step (by repeat (first | (with_reducible first | exact HB.out | apply below_alloc | apply pw_below_drewN | apply below_drew1) | exact HB.out)) hb); clear HB; have HO104 := n0_; have HB := n1_; clear n0_ n1_; (try clear hb); (try clear hb2); (try clear hk); (try clear hi); (try clear ho0)))
 (try simp only [Act.put, List.setIfInBounds_toArray, List.set_cons_zero, List.set_cons_succ])
 go_cut [36] (fun v36 wc => ∃ (kq : Nat) (x36_4 : Bool), v36 = .bool x36_4 ∧ Aside0 (accountinglaw08_SplitEvenOnes.j0 kq a0 a1 a2 t101 t102 x36_4 = some r) ∧ Aside0 (kq ≤ k) ∧ Aside0 (Kd.R (Kd.int .i64) 3 wc w.heap.size (fun _ => True) v103 t101) ∧ Aside0 (Below w.heap.size w wc))
 case first =>
  have H := HC5.out
  clear HC5
  by_cases c7 : a1 < 1
  ·rw [if_pos c7] at H
   have c7b0 : decide (a1 < 1) = true := decide_eq_true c7
   clear c7
   (first | rw [c7b0] | (simp only [i64_w, i32_w]; rw [c7b0]) | skip)
   have H' := Aside0.mk H
   clear H
   go_wp2
   go_meet
   case rel => exact ⟨_, (true), (by first | rfl | (simp; done) | (simp [*]; done)), H', ⟨by first | omega | exact Nat.le_refl _⟩, ⟨by (with_reducible repeat (first | apply Kd.R_alloc | apply Kd.R_drewN | apply Kd.R_drew)); exact HO104.out⟩, ⟨by repeat (first | (with_reducible first | exact HB.out | apply below_alloc | apply pw_below_drewN | apply below_drew1) | exact HB.out)⟩⟩
  ·rw [if_neg c7] at H
   have c7b0 : decide (a1 < 1) = false := decide_eq_false c7
   clear c7
   (first | rw [c7b0] | (simp only [i64_w, i32_w]; rw [c7b0]) | skip)
   by_cases c8 : a1 > 200
   ·rw [if_pos c8] at H
    have c8b0 : decide (200 < a1) = true := decide_eq_true c8
    clear c8
    have H' := Aside0.mk H
    clear H
    go_wp2
    go_meet
    case rel => exact ⟨_, (true), (by first | rfl | (simp; done) | (simp [*]; done)), H', ⟨by first | omega | exact Nat.le_refl _⟩, ⟨by (with_reducible repeat (first | apply Kd.R_alloc | apply Kd.R_drewN | apply Kd.R_drew)); exact HO104.out⟩, ⟨by repeat (first | (with_reducible first | exact HB.out | apply below_alloc | apply pw_below_drewN | apply below_drew1) | exact HB.out)⟩⟩
   ·rw [if_neg c8] at H
    have c8b0 : decide (200 < a1) = false := decide_eq_false c8
    clear c8
    by_cases c9 : a2 < 1
    ·rw [if_pos c9] at H
     have c9b0 : decide (a2 < 1) = true := decide_eq_true c9
     clear c9
     have H' := Aside0.mk H
     clear H
     go_wp2
     go_meet
     case rel => exact ⟨_, (true), (by first | rfl | (simp; done) | (simp [*]; done)), H', ⟨by first | omega | exact Nat.le_refl _⟩, ⟨by (with_reducible repeat (first | apply Kd.R_alloc | apply Kd.R_drewN | apply Kd.R_drew)); exact HO104.out⟩, ⟨by repeat (first | (with_reducible first | exact HB.out | apply below_alloc | apply pw_below_drewN | apply below_drew1) | exact HB.out)⟩⟩
    ·rw [if_neg c9] at H
     have c9b0 : decide (a2 < 1) = false := decide_eq_false c9
     clear c9
     by_cases c10 : a2 > 1000000
     ·rw [if_pos c10] at H
      have c10b0 : decide (1000000 < a2) = true := decide_eq_true c10
      clear c10
      have H' := Aside0.mk H
      clear H
      go_wp2
      go_meet
      case rel => exact ⟨_, (true), (by first | rfl | (simp; done) | (simp [*]; done)), H', ⟨by first | omega | exact Nat.le_refl _⟩, ⟨by (with_reducible repeat (first | apply Kd.R_alloc | apply Kd.R_drewN | apply Kd.R_drew)); exact HO104.out⟩, ⟨by repeat (first | (with_reducible first | exact HB.out | apply below_alloc | apply pw_below_drewN | apply below_drew1) | exact HB.out)⟩⟩
     ·rw [if_neg c10] at H
      have c10b0 : decide (1000000 < a2) = false := decide_eq_false c10
      clear c10
      have H' := Aside0.mk H
      clear H
      go_wp2
      go_meet
      case rel => exact ⟨_, ((t102 != 0)), (by first | rfl | (simp; done) | (simp [*]; done)), H', ⟨by first | omega | exact Nat.le_refl _⟩, ⟨by (with_reducible repeat (first | apply Kd.R_alloc | apply Kd.R_drewN | apply Kd.R_drew)); exact HO104.out⟩, ⟨by repeat (first | (with_reducible first | exact HB.out | apply below_alloc | apply pw_below_drewN | apply below_drew1) | exact HB.out)⟩⟩
 case rest =>
  clear HC5
  try clear c1
  try clear p2
  try clear c7
  try clear c7b0
  try clear c8
  try clear c8b0
  try clear c9
  try clear c9b0
  try clear c10
  try clear c10b0
  obtain ⟨kq, x36_4, rfl, HA, HJ4, HO_7, HB⟩ := hcut
  cases kq with
  | zero => exact absurd HA.out (by simp [accountinglaw08_SplitEvenOnes.j0])
  | succ kj4 =>
   have H := HA.out
   clear HA
   simp only [accountinglaw08_SplitEvenOnes.j0] at H
   by_cases c11 : x36_4 = true
   ·subst c11
    have H1 : (if t102 = 0 then ((accountinglaw08_lives.f kj4).bind fun t105 => (some t105)) else (if (t101.length : Int) = 0 then ((accountinglaw08_lives.f kj4).bind fun t106 => (some t106)) else (some false))) = some r := by rw [if_pos rfl] at H; exact H
    clear H
    have H := H1
    clear H1
    by_cases c12 : t102 = 0
    ·rw [if_pos c12] at H
     have c12b0 : (t102 == 0) = true := beq_iff_eq.mpr c12
     have c12b1 : (t102 != 0) = false := bne_eq_false_iff_eq.mpr c12
     clear c12
     replace H := Option.bind_eq_some_iff.mp H
     obtain ⟨t105, A130, H⟩ := H
     replace H : (some t105) = some r := H
     have A13 := Aside0.mk A130
     clear A130
     obtain rfl := Option.some.inj H
     go_wp2_with (first | (go_at_call 13; (with_reducible refine (accountinglaw08_lives.calls kj4  t105 _ A13.out).mono ?_); rintro e w14 ⟨rfl, hb⟩; have n0_ := Aside0.mk (Kd.R_below (by (with_reducible repeat (first | apply Kd.R_alloc | apply Kd.R_drewN | apply Kd.R_drew)); exact HO_7.out) hb); have n1_ := Aside0.mk (below_step (by repeat (first | (with_reducible first | exact HB.out | apply below_alloc | apply pw_below_drewN | apply below_drew1) | exact HB.out)) hb); clear HO_7; clear HB; have HO_7 := n0_; have HB := n1_; clear n0_ n1_; (try clear hb); (try clear hb2); (try clear hk); (try clear hi)))
     go_ret
     exact ⟨by first | rfl | (simp [errW_none, errW_some] <;> rfl) | (simp [*, errW_none, errW_some] <;> rfl), by repeat (first | (with_reducible first | exact HB.out | apply below_alloc | apply pw_below_drewN | apply below_drew1) | exact HB.out)⟩
    ·rw [if_neg c12] at H
     have c12b0 : (t102 == 0) = false := beq_eq_false_iff_ne.mpr c12
     have c12b1 : (t102 != 0) = true := bne_iff_ne.mpr c12
     by_cases c15 : (t101.length : Int) = 0
     ·rw [if_pos c15] at H
      have c15b0 : ((t101.length : Int) == 0) = true := beq_iff_eq.mpr c15
      have c15b1 : ((t101.length : Int) != 0) = false := bne_eq_false_iff_eq.mpr c15
      clear c15
      replace H := Option.bind_eq_some_iff.mp H
      obtain ⟨t106, A160, H⟩ := H
      replace H : (some t106) = some r := H
      have A16 := Aside0.mk A160
      clear A160
      obtain rfl := Option.some.inj H
      obtain ⟨Ao17, co17, eo17⟩ := Kd.R_slice HO_7.out
      subst eo17
      go_wp2_with (first | (go_at_call 13; (with_reducible refine (accountinglaw08_lives.calls kj4  t106 _ A16.out).mono ?_); rintro e w18 ⟨rfl, hb⟩; have n0_ := Aside0.mk (Kd.R_below (by (with_reducible repeat (first | apply Kd.R_alloc | apply Kd.R_drewN | apply Kd.R_drew)); exact HO_7.out) hb); have n1_ := Aside0.mk (below_step (by repeat (first | (with_reducible first | exact HB.out | apply below_alloc | apply pw_below_drewN | apply below_drew1) | exact HB.out)) hb); clear HO_7; clear HB; have HO_7 := n0_; have HB := n1_; clear n0_ n1_; (try clear hb); (try clear hb2); (try clear hk); (try clear hi)))
      go_ret
      exact ⟨by first | rfl | (simp [errW_none, errW_some] <;> rfl) | (simp [*, errW_none, errW_some] <;> rfl), by repeat (first | (with_reducible first | exact HB.out | apply below_alloc | apply pw_below_drewN | apply below_drew1) | exact HB.out)⟩
     ·rw [if_neg c15] at H
      have c15b0 : ((t101.length : Int) == 0) = false := beq_eq_false_iff_ne.mpr c15
      have c15b1 : ((t101.length : Int) != 0) = true := bne_iff_ne.mpr c15
      have c15b2 : ¬ (t101 = []) := fun h_ => c15 (by rw [h_]; rfl)
      obtain rfl := Option.some.inj H
      obtain ⟨Ao19, co19, eo19⟩ := Kd.R_slice HO_7.out
      subst eo19
      go_wp2
      go_ret
      exact ⟨by first | rfl | (simp [errW_none, errW_some] <;> rfl) | (simp [*, errW_none, errW_some] <;> rfl), by repeat (first | (with_reducible first | exact HB.out | apply below_alloc | apply pw_below_drewN | apply below_drew1) | exact HB.out)⟩
   ·replace c11 := Bool.eq_false_iff.mpr c11
    subst c11
    have H1 : (accountinglaw08_SplitEvenOnes.l0 kj4 a0 a1 a2 t101 (([] : List Int)) 0) = some r := by rw [if_neg (show ¬ (false = true) by decide)] at H; exact H
    clear H
    have H := H1
    clear H1
    obtain ⟨y107, hy107⟩ : ∃ y_ : List Int, y_ = (([] : List Int)) := ⟨_, rfl⟩
    replace H : (accountinglaw08_SplitEvenOnes.l0 kj4 a0 a1 a2 t101 y107 0) = some r := by first | (rw [hy107]; with_reducible exact H) | (have H2_ := (Option.bind_some _ _).symm.trans H; rw [hy107]; with_reducible exact H2_) | (have H2_ := (Option.bind_some _ _).symm.trans H; with_reducible exact H2_) | with_reducible exact H | (rw [hy107]; exact H) | exact H
    have Ny107 := Aside0.mk hy107
    clear hy107
    have H' := Aside0.mk H
    clear H
    go_wp2_with (first | ((with_reducible refine gate_dst (N := 47) rfl ?_); (try (refine gate_guard (by rfl) ?_; dsimp only)); refine Kd.R_lit (Kd.int .i64) _ 3 ?hg (N := 47) ?hd (xs := ([] : List Int)) (inner := []) (ok := fun _ => True) (okp := fun _ => True) ?hr ?hp (fun _ hk => hk) trivial (Below.refl _ _) (Nat.le_refl _) (by simp) ?_; (case hd => rfl); (case hg => rfl); (case hr => first | (go_simp; done) | (go_simp; rfl)); (case hp => exact (Reps.none _ _)); intro v108 w20 ho21 hb hg_ hnew_; clear hg_ hnew_; (first | rw [← Ny107.out] at ho21 | (simp only [Int.reduceToNat] at ho21; rw [← Ny107.out] at ho21)); have n0_ := Aside0.mk (Kd.R_elder' (by (with_reducible repeat (first | apply Kd.R_alloc | apply Kd.R_drewN | apply Kd.R_drew)); exact HO_7.out) (Kd.R_base ho21) hb); have n1_ := Aside0.mk (Kd.R_lower (Kd.R_new' ho21 (Kd.R_lt (by (with_reducible repeat (first | apply Kd.R_alloc | apply Kd.R_drewN | apply Kd.R_drew)); exact HO_7.out))) (below_size (by repeat (first | (with_reducible first | exact HB.out | apply below_alloc | apply pw_below_drewN | apply below_drew1) | exact HB.out)))); have n2_ := Aside0.mk (below_step (by repeat (first | (with_reducible first | exact HB.out | apply below_alloc | apply pw_below_drewN | apply below_drew1) | exact HB.out)) hb); clear HO_7; clear HB; have HO_7 := n0_; have HO109 := n1_; have HB := n2_; clear n0_ n1_ n2_; clear hb ho21))
    go_loopg [9, 10] kj4 (fun kq v9 v10 w' => ∃ (x9_2 : List Int) (x10_2 : Int), v10 = .int .i64 x10_2 ∧ Aside0 (accountinglaw08_SplitEvenOnes.l0 kq a0 a1 a2 t101 x9_2 x10_2 = some r) ∧ Aside0 (kq ≤ kj4) ∧ Aside0 (Kd.R (Kd.int .i64) 3 w' w.heap.size (fun k_ => some k_ ≠ (v9 : Value).ownBlock) v103 t101) ∧ Aside0 (Kd.R (Kd.int .i64) 3 w' w.heap.size (fun k_ => some k_ ≠ (v103 : Value).ownBlock) v9 x9_2) ∧ Aside0 (Below w.heap.size w w'))
    case atStart => exact ⟨(y107), (0), (by first | rfl | (simp; done) | (simp [*]; done)), H', ⟨Nat.le_refl _⟩, ⟨by (with_reducible repeat (first | apply Kd.R_alloc | apply Kd.R_drewN | apply Kd.R_drew)); exact Kd.R_mono HO_7.out (fun _ hk => hk.2)⟩, ⟨by (with_reducible repeat (first | apply Kd.R_alloc | apply Kd.R_drewN | apply Kd.R_drew)); exact Kd.R_mono HO109.out (fun _ hk => hk.2)⟩, ⟨by repeat (first | (with_reducible first | exact HB.out | apply below_alloc | apply pw_below_drewN | apply below_drew1) | exact HB.out)⟩⟩
    case round =>
     clear H'
     try clear c1
     try clear p2
     try clear c7
     try clear c7b0
     try clear c8
     try clear c8b0
     try clear c9
     try clear c9b0
     try clear c10
     try clear c10b0
     try clear c11
     try clear c12
     try clear c12b0
     try clear c12b1
     try clear c15
     try clear c15b0
     try clear c15b1
     try clear c15b2
     try clear c16
     try clear p2
     obtain ⟨x9_2, x10_2, rfl, HA, HK2, HO_7, HO_9, HB⟩ := hrel
     cases gk with
     | zero => exact absurd HA.out (by simp [accountinglaw08_SplitEvenOnes.l0])
     | succ k2 =>
      have H := HA.out
      clear HA
      simp only [accountinglaw08_SplitEvenOnes.l0] at H
      by_cases c22 : x10_2 < a1
      ·rw [if_pos c22] at H
       have c22b0 : decide (x10_2 < a1) = true := decide_eq_true c22
       clear c22
       by_cases c23 : x9_2.length < 17592186044416
       ·rw [if_pos c23] at H
        have LMc23 := Aside0.mk c23
        clear c23
        obtain ⟨y110, hy110⟩ : ∃ y_ : List Int, y_ = (x9_2 ++ [a2]) := ⟨_, rfl⟩
        replace H : (accountinglaw08_SplitEvenOnes.l0 k2 a0 a1 a2 t101 y110 (wrap64 (x10_2 + 1))) = some r := by first | (rw [hy110]; with_reducible exact H) | (have H2_ := (Option.bind_some _ _).symm.trans H; rw [hy110]; with_reducible exact H2_) | (have H2_ := (Option.bind_some _ _).symm.trans H; with_reducible exact H2_) | with_reducible exact H | (rw [hy110]; exact H) | exact H
        have Ny110 := Aside0.mk hy110
        clear hy110
        have H' := Aside0.mk H
        clear H
        go_wp2_with (first | ((with_reducible refine gate_builtin (b := .append) (xs := #[.tmp 53, .tmp 55]) rfl ?_); (try (refine gate_guard (by rfl) ?_; dsimp only)); at_builtin; refine Kd.R_append (Kd.int .i64) (w0 := w) w.heap.size rfl (.tmp 53) (.tmp 55) 22 3 (.int .i64 0) 8 rfl Try.underlying22 info3 rfl (by decide) (by omega) u9 x9_2 a2 [.int .i64 a2] (fun k_ => some k_ ≠ (v103 : Value).ownBlock) (fun _ => False) rfl rfl ?aP (fun _ hk => hk.elim) ?aF ?aO ?aB ?aS ?aL ?_; (case aP => exact rfl); (case aB => exact (by repeat (first | (with_reducible first | exact HB.out | apply below_alloc | apply pw_below_drewN | apply below_drew1) | exact HB.out))); (case aF => exact (fun k_ hk => Kd.fresh' (Kd.R_lt (by (with_reducible repeat (first | apply Kd.R_alloc | apply Kd.R_drewN | apply Kd.R_drew)); exact HO_7.out)) k_ hk)); (case aO => exact (by (with_reducible repeat (first | apply Kd.R_alloc | apply Kd.R_drewN | apply Kd.R_drew)); exact HO_9.out)); (case aS => exact (below_size (by repeat (first | (with_reducible first | exact HB.out | apply below_alloc | apply pw_below_drewN | apply below_drew1) | exact HB.out)))); (case aL => have := LMc23.out; omega); intro v111 w24 ho hb hg hat; rw [← Ny110.out] at ho; have n0_ := Aside0.mk (Kd.R_after (ok := (fun _ => True)) (by (with_reducible repeat (first | apply Kd.R_alloc | apply Kd.R_drewN | apply Kd.R_drew)); exact Kd.R_mono HO_7.out (fun _ hk => ⟨trivial, hk⟩)) hg hat); have n1_ := Aside0.mk (hb); have n2_ := Aside0.mk (ho); clear HO_7; clear HB; clear HO_9; have HO_7 := n0_; have HB := n1_; have HO112 := n2_; clear n0_ n1_ n2_; clear ho hb hg hat))
        go_roundg k2
        case measure => have := HJ4.out; have := HK2.out; omega
        case rel => exact ⟨(y110), (wrap64 (x10_2 + 1)), (by first | rfl | (simp; done) | (simp [*]; done)), H', ⟨by have := HJ4.out; have := HK2.out; omega⟩, ⟨by (with_reducible repeat (first | apply Kd.R_alloc | apply Kd.R_drewN | apply Kd.R_drew)); exact Kd.R_mono HO_7.out (fun _ hk => hk.2)⟩, ⟨by (with_reducible repeat (first | apply Kd.R_alloc | apply Kd.R_drewN | apply Kd.R_drew)); exact HO112.out⟩, ⟨by repeat (first | (with_reducible first | exact HB.out | apply below_alloc | apply pw_below_drewN | apply below_drew1) | exact HB.out)⟩⟩
       ·rw [if_neg c23] at H
        exact absurd H (by simp)
      ·rw [if_neg c22] at H
       have c22b0 : decide (x10_2 < a1) = false := decide_eq_false c22
       clear c22
       replace H := Option.bind_eq_some_iff.mp H
       obtain ⟨⟨t113, t114⟩, A250, H⟩ := H
       replace H : (if t114 = 0 then ((accountingref08_Same.f k2 t101 t113).bind fun t117 => (if t117 = true then (accountinglaw08_SplitEvenOnes.j2 k2 a1 t101 ((t101.length : Int) != a1)) else (accountinglaw08_SplitEvenOnes.j2 k2 a1 t101 true))) else (accountinglaw08_SplitEvenOnes.j2 k2 a1 t101 true)) = some r := H
       have A25 := Aside0.mk A250
       clear A250
       have HC26 := Aside0.mk H
       clear H
       obtain ⟨Ao27, co27, eo27⟩ := Kd.R_slice HO_9.out
       subst eo27
       go_upto_region 10 with (first | ((with_reducible refine gate_callee (f := 12) rfl ?_); refine goesL_ (some 60) rfl rfl Try.func12 (by kernel_rfl) rfl #[.int .i64 a0, .slice Ao27 x9_2.length co27] rfl (by (try simp only [List.map_toArray, List.map_cons, List.map_nil]); first | done | rfl | (simp only [List.length_drop, List.length_take]; rfl)) ?_; (with_reducible refine (split_Shares.calls k2 a0 _ _ x9_2 t113 t114 _ ?side1 ?side2 A25.out).mono ?_); (case side1 => repeat (first | exact (Kd.R_reads' HO_9.out).2.2 | (with_reducible refine Kd.C_alloc ?_ _) | (with_reducible refine Kd.C_drewN ?_ _) | (with_reducible refine Kd.C_drew ?_))); (case side2 => exact (Kd.R_reads' HO_9.out).2.1); rintro e w28 ⟨v115, rfl, ho0, hb⟩; refine ⟨_, rfl, ?_⟩; have n0_ := Aside0.mk (Kd.R_elder' (by (with_reducible repeat (first | apply Kd.R_alloc | apply Kd.R_drewN | apply Kd.R_drew)); exact HO_7.out) (Kd.R_base ho0) hb); have n1_ := Aside0.mk (Kd.R_elder' (by (with_reducible repeat (first | apply Kd.R_alloc | apply Kd.R_drewN | apply Kd.R_drew)); exact HO_9.out) (Kd.R_base ho0) hb); have n2_ := Aside0.mk (Kd.R_lower (Kd.R_new' (Kd.R_new' ho0 (Kd.R_lt (by (with_reducible repeat (first | apply Kd.R_alloc | apply Kd.R_drewN | apply Kd.R_drew)); exact HO_7.out))) (Kd.R_lt (by (with_reducible repeat (first | apply Kd.R_alloc | apply Kd.R_drewN | apply Kd.R_drew)); exact HO_9.out))) (below_size (by repeat (first | (with_reducible first | exact HB.out | apply below_alloc | apply pw_below_drewN | apply below_drew1) | exact HB.out)))); have n3_ := Aside0.mk (below_step (by repeat (first | (with_reducible first | exact HB.out | apply below_alloc | apply pw_below_drewN | apply below_drew1) | exact HB.out)) hb); clear HO_7; clear HO_9; clear HB; have HO_7 := n0_; have HO_9 := n1_; have HO116 := n2_; have HB := n3_; clear n0_ n1_ n2_ n3_; (try clear hb); (try clear hb2); (try clear hk); (try clear hi); (try clear ho0)))
       (try simp only [Act.put, List.setIfInBounds_toArray, List.set_cons_zero, List.set_cons_succ])
       go_cut [76] (fun v76 wc => ∃ (kq : Nat) (x76_25 : Bool), v76 = .bool x76_25 ∧ Aside0 (accountinglaw08_SplitEvenOnes.j2 kq a1 t101 x76_25 = some r) ∧ Aside0 (kq ≤ k2) ∧ Aside0 (Kd.R (Kd.int .i64) 3 wc w.heap.size (fun _ => True) v103 t101) ∧ Aside0 (Below w.heap.size w wc))
       case first =>
        have H := HC26.out
        clear HC26
        by_cases c29 : t114 = 0
        ·rw [if_pos c29] at H
         have c29b0 : (t114 == 0) = true := beq_iff_eq.mpr c29
         have c29b1 : (t114 != 0) = false := bne_eq_false_iff_eq.mpr c29
         clear c29
         (first | rw [c29b0] | (simp only [i64_w, i32_w]; rw [c29b0]) | skip)
         replace H := Option.bind_eq_some_iff.mp H
         obtain ⟨t117, A300, H⟩ := H
         replace H : (if t117 = true then (accountinglaw08_SplitEvenOnes.j2 k2 a1 t101 ((t101.length : Int) != a1)) else (accountinglaw08_SplitEvenOnes.j2 k2 a1 t101 true)) = some r := H
         have A30 := Aside0.mk A300
         clear A300
         by_cases c31 : t117 = true
         ·subst c31
          have H1 : (accountinglaw08_SplitEvenOnes.j2 k2 a1 t101 ((t101.length : Int) != a1)) = some r := by rw [if_pos rfl] at H; exact H
          clear H
          have H := H1
          clear H1
          have H' := Aside0.mk H
          clear H
          obtain ⟨Ao32, co32, eo32⟩ := Kd.R_slice HO_7.out
          subst eo32
          obtain ⟨Ao33, co33, eo33⟩ := Kd.R_slice HO116.out
          subst eo33
          go_wp2_with (first | (go_at_call 15; (with_reducible refine (accountingref08_Same.calls k2 _ _ t101 _ _ t113 true _ ?side1 ?side2 ?side3 ?side4 A30.out).mono ?_); (case side1 => repeat (first | exact (Kd.R_reads' HO_7.out).2.2 | (with_reducible refine Kd.C_alloc ?_ _) | (with_reducible refine Kd.C_drewN ?_ _) | (with_reducible refine Kd.C_drew ?_))); (case side2 => exact (Kd.R_reads' HO_7.out).2.1); (case side3 => repeat (first | exact (Kd.R_reads' HO116.out).2.2 | (with_reducible refine Kd.C_alloc ?_ _) | (with_reducible refine Kd.C_drewN ?_ _) | (with_reducible refine Kd.C_drew ?_))); (case side4 => exact (Kd.R_reads' HO116.out).2.1); rintro e w' ⟨rfl, ⟨nd, rfl⟩⟩))
          go_meet
          case rel => exact ⟨_, (((t101.length : Int) != a1)), (by first | rfl | (simp; done) | (simp [*]; done)), H', ⟨by have := HJ4.out; have := HK2.out; first | omega | exact Nat.le_refl _⟩, ⟨by (with_reducible repeat (first | apply Kd.R_alloc | apply Kd.R_drewN | apply Kd.R_drew)); exact Kd.R_mono HO_7.out (fun _ hk => trivial)⟩, ⟨by repeat (first | (with_reducible first | exact HB.out | apply below_alloc | apply pw_below_drewN | apply below_drew1) | exact HB.out)⟩⟩
         ·replace c31 := Bool.eq_false_iff.mpr c31
          subst c31
          have H1 : (accountinglaw08_SplitEvenOnes.j2 k2 a1 t101 true) = some r := by rw [if_neg (show ¬ (false = true) by decide)] at H; exact H
          clear H
          have H := H1
          clear H1
          have H' := Aside0.mk H
          clear H
          obtain ⟨Ao34, co34, eo34⟩ := Kd.R_slice HO_7.out
          subst eo34
          obtain ⟨Ao35, co35, eo35⟩ := Kd.R_slice HO116.out
          subst eo35
          go_wp2_with (first | (go_at_call 15; (with_reducible refine (accountingref08_Same.calls k2 _ _ t101 _ _ t113 false _ ?side1 ?side2 ?side3 ?side4 A30.out).mono ?_); (case side1 => repeat (first | exact (Kd.R_reads' HO_7.out).2.2 | (with_reducible refine Kd.C_alloc ?_ _) | (with_reducible refine Kd.C_drewN ?_ _) | (with_reducible refine Kd.C_drew ?_))); (case side2 => exact (Kd.R_reads' HO_7.out).2.1); (case side3 => repeat (first | exact (Kd.R_reads' HO116.out).2.2 | (with_reducible refine Kd.C_alloc ?_ _) | (with_reducible refine Kd.C_drewN ?_ _) | (with_reducible refine Kd.C_drew ?_))); (case side4 => exact (Kd.R_reads' HO116.out).2.1); rintro e w' ⟨rfl, ⟨nd, rfl⟩⟩))
          go_meet
          case rel => exact ⟨_, (true), (by first | rfl | (simp; done) | (simp [*]; done)), H', ⟨by have := HJ4.out; have := HK2.out; first | omega | exact Nat.le_refl _⟩, ⟨by (with_reducible repeat (first | apply Kd.R_alloc | apply Kd.R_drewN | apply Kd.R_drew)); exact Kd.R_mono HO_7.out (fun _ hk => trivial)⟩, ⟨by repeat (first | (with_reducible first | exact HB.out | apply below_alloc | apply pw_below_drewN | apply below_drew1) | exact HB.out)⟩⟩
        ·rw [if_neg c29] at H
         have c29b0 : (t114 == 0) = false := beq_eq_false_iff_ne.mpr c29
         have c29b1 : (t114 != 0) = true := bne_iff_ne.mpr c29
         (first | rw [c29b0] | (simp only [i64_w, i32_w]; rw [c29b0]) | skip)
         have H' := Aside0.mk H
         clear H
         go_wp2
         go_meet
         case rel => exact ⟨_, (true), (by first | rfl | (simp; done) | (simp [*]; done)), H', ⟨by have := HJ4.out; have := HK2.out; first | omega | exact Nat.le_refl _⟩, ⟨by (with_reducible repeat (first | apply Kd.R_alloc | apply Kd.R_drewN | apply Kd.R_drew)); exact Kd.R_mono HO_7.out (fun _ hk => trivial)⟩, ⟨by repeat (first | (with_reducible first | exact HB.out | apply below_alloc | apply pw_below_drewN | apply below_drew1) | exact HB.out)⟩⟩
       case rest =>
        clear HC26
        try clear c1
        try clear c2
        try clear p2
        try clear c3
        try clear p6
        try clear c7
        try clear c7b0
        try clear c8
        try clear c8b0
        try clear c9
        try clear c9b0
        try clear c10
        try clear c10b0
        try clear c11
        try clear c12
        try clear c12b0
        try clear c12b1
        try clear c15
        try clear c15b0
        try clear c15b1
        try clear c15b2
        try clear c16
        try clear c22
        try clear c22b0
        try clear c23
        try clear c29
        try clear c29b0
        try clear c29b1
        try clear c31
        try clear p2
        obtain ⟨kq, x76_25, rfl, HA, HJ25, HO_7, HB⟩ := hcut
        cases kq with
        | zero => exact absurd HA.out (by simp [accountinglaw08_SplitEvenOnes.j2])
        | succ kj25 =>
         have H := HA.out
         clear HA
         simp only [accountinglaw08_SplitEvenOnes.j2] at H
         by_cases c36 : x76_25 = true
         ·subst c36
          have H1 : (some false) = some r := by rw [if_pos rfl] at H; exact H
          clear H
          have H := H1
          clear H1
          obtain rfl := Option.some.inj H
          go_wp2
          go_ret
          exact ⟨by first | rfl | (simp [errW_none, errW_some] <;> rfl) | (simp [*, errW_none, errW_some] <;> rfl), by repeat (first | (with_reducible first | exact HB.out | apply below_alloc | apply pw_below_drewN | apply below_drew1) | exact HB.out)⟩
         ·replace c36 := Bool.eq_false_iff.mpr c36
          subst c36
          have H1 : (if 0 < (t101.length : Int) then ((accountinglaw08_size.f (rd t101 0)).bind fun t119 => (if 0 ≤ (wrap64 (a1 - 1)) then (if (wrap64 (a1 - 1)) < (t101.length : Int) then ((accountinglaw08_size.f (rd t101 (wrap64 (a1 - 1)))).bind fun t121 => (if (wrap64 (t119 - t121)) ≥ 0 then ((accountinglaw08_size.f (rd t101 0)).bind fun t123 => ((accountinglaw08_size.f (rd t101 (wrap64 (a1 - 1)))).bind fun t125 => (if (wrap64 (t123 - t125)) ≤ 1 then ((accountinglaw08_lives.f kj25).bind fun t126 => (some t126)) else (some false)))) else (some false))) else (none)) else (none))) else (none)) = some r := by rw [if_neg (show ¬ (false = true) by decide)] at H; exact H
          clear H
          have H := H1
          clear H1
          by_cases c37 : 0 < (t101.length : Int)
          ·rw [if_pos c37] at H
           have c37b0 : decide (0 < (t101.length : Int)) = true := decide_eq_true c37
           have c37b1 : decide (0 < t101.length) = true := decide_eq_true (by omega)
           clear c37
           replace H := Option.bind_eq_some_iff.mp H
           obtain ⟨t119, A380, H⟩ := H
           replace H : (if 0 ≤ (wrap64 (a1 - 1)) then (if (wrap64 (a1 - 1)) < (t101.length : Int) then ((accountinglaw08_size.f (rd t101 (wrap64 (a1 - 1)))).bind fun t121 => (if (wrap64 (t119 - t121)) ≥ 0 then ((accountinglaw08_size.f (rd t101 0)).bind fun t123 => ((accountinglaw08_size.f (rd t101 (wrap64 (a1 - 1)))).bind fun t125 => (if (wrap64 (t123 - t125)) ≤ 1 then ((accountinglaw08_lives.f kj25).bind fun t126 => (some t126)) else (some false)))) else (some false))) else (none)) else (none)) = some r := H
           have A38 := Aside0.mk A380
           clear A380
           obtain ⟨ji39, hji39⟩ : ∃ j_ : Int, (wrap64 (a1 - 1)) = j_ := ⟨_, rfl⟩
           replace H : (if 0 ≤ (ji39) then (if (ji39) < (t101.length : Int) then ((accountinglaw08_size.f (rd t101 (ji39))).bind fun t121 => (if (wrap64 (t119 - t121)) ≥ 0 then ((accountinglaw08_size.f (rd t101 0)).bind fun t123 => ((accountinglaw08_size.f (rd t101 (ji39))).bind fun t125 => (if (wrap64 (t123 - t125)) ≤ 1 then ((accountinglaw08_lives.f kj25).bind fun t126 => (some t126)) else (some false)))) else (some false))) else (none)) else (none)) = some r := by first | (rw [hji39] at H; exact H) | (simp only [hji39] at H ⊢; exact H)
           (try rw [hji39] at A38)
           have hji39w : (IntKind.i64.wrap (a1 - 1)) = ji39 := (i64_w _).trans hji39
           by_cases c40 : 0 ≤ (ji39)
           ·rw [if_pos c40] at H
            have c40b0 : decide (0 ≤ (ji39)) = true := decide_eq_true c40
            clear c40
            by_cases c41 : (ji39) < (t101.length : Int)
            ·rw [if_pos c41] at H
             have c41b0 : decide ((ji39) < (t101.length : Int)) = true := decide_eq_true c41
             clear c41
             replace H := Option.bind_eq_some_iff.mp H
             obtain ⟨t121, A420, H⟩ := H
             replace H : (if (wrap64 (t119 - t121)) ≥ 0 then ((accountinglaw08_size.f (rd t101 0)).bind fun t123 => ((accountinglaw08_size.f (rd t101 (ji39))).bind fun t125 => (if (wrap64 (t123 - t125)) ≤ 1 then ((accountinglaw08_lives.f kj25).bind fun t126 => (some t126)) else (some false)))) else (some false)) = some r := H
             have A42 := Aside0.mk A420
             clear A420
             by_cases c43 : (wrap64 (t119 - t121)) ≥ 0
             ·rw [if_pos c43] at H
              have c43b0 : decide (0 ≤ (wrap64 (t119 - t121))) = true := decide_eq_true c43
              clear c43
              replace H := Option.bind_eq_some_iff.mp H
              obtain ⟨t123, A440, H⟩ := H
              replace H : ((accountinglaw08_size.f (rd t101 (ji39))).bind fun t125 => (if (wrap64 (t123 - t125)) ≤ 1 then ((accountinglaw08_lives.f kj25).bind fun t126 => (some t126)) else (some false))) = some r := H
              have A44 := Aside0.mk A440
              clear A440
              replace H := Option.bind_eq_some_iff.mp H
              obtain ⟨t125, A450, H⟩ := H
              replace H : (if (wrap64 (t123 - t125)) ≤ 1 then ((accountinglaw08_lives.f kj25).bind fun t126 => (some t126)) else (some false)) = some r := H
              have A45 := Aside0.mk A450
              clear A450
              by_cases c46 : (wrap64 (t123 - t125)) ≤ 1
              ·rw [if_pos c46] at H
               have c46b0 : decide ((wrap64 (t123 - t125)) ≤ 1) = true := decide_eq_true c46
               clear c46
               replace H := Option.bind_eq_some_iff.mp H
               obtain ⟨t126, A470, H⟩ := H
               replace H : (some t126) = some r := H
               have A47 := Aside0.mk A470
               clear A470
               obtain rfl := Option.some.inj H
               try go_wp2
               have n0_ := Aside0.mk (Kd.R_drew HO_7.out)
               have n1_ := Aside0.mk (below_drew1 HB.out)
               clear HO_7
               clear HB
               have HO_7 := n0_
               have HB := n1_
               clear n0_ n1_
               obtain ⟨Ao49, co49, eo49⟩ := Kd.R_slice HO_7.out
               (first | subst eo49 | (injection eo49 with f1_ f2_ f3_; have f4_ := f1_.symm; have f5_ := f3_.symm; clear f1_ f2_ f3_; subst f4_; subst f5_))
               have p118 : 0 ≤ (0 : Int) := (by omega)
               have q118 : 0 < (t101.length : Int) := of_decide_eq_true (by first | (with_reducible assumption) | assumption)
               obtain ⟨ad118, e118, hx118_0⟩ := Kd.at_int (Kd.R_reads' HO_7.out).2.2 0 p118 q118
               cases e118
               have qi118 : (0 < t101.length) = True := eq_true (by omega)
               (try rw [show ((0 : Int)).toNat = 0 from rfl] at hx118_0)
               (try rw [Addr.add_zero'] at hx118_0)
               replace p118 := eq_true p118
               replace q118 := eq_true q118
               have p120 : 0 ≤ ((ji39) : Int) := of_decide_eq_true (by first | (with_reducible assumption) | assumption)
               have q120 : (ji39) < (t101.length : Int) := of_decide_eq_true (by first | (with_reducible assumption) | assumption)
               obtain ⟨ad120, e120, hx120_0⟩ := Kd.at_int (Kd.R_reads' HO_7.out).2.2 (ji39) p120 q120
               obtain rfl : ad118 = ad120 := (by injection e120)
               replace p120 := eq_true p120
               replace q120 := eq_true q120
               have p122 : 0 ≤ (0 : Int) := (by omega)
               have q122 : 0 < (t101.length : Int) := of_decide_eq_true (by first | (with_reducible assumption) | assumption)
               obtain ⟨ad122, e122, hx122_0⟩ := Kd.at_int (Kd.R_reads' HO_7.out).2.2 0 p122 q122
               obtain rfl : ad118 = ad122 := (by injection e122)
               have qi122 : (0 < t101.length) = True := eq_true (by omega)
               (try rw [show ((0 : Int)).toNat = 0 from rfl] at hx122_0)
               (try rw [Addr.add_zero'] at hx122_0)
               replace p122 := eq_true p122
               replace q122 := eq_true q122
               have p124 : 0 ≤ ((ji39) : Int) := of_decide_eq_true (by first | (with_reducible assumption) | assumption)
               have q124 : (ji39) < (t101.length : Int) := of_decide_eq_true (by first | (with_reducible assumption) | assumption)
               obtain ⟨ad124, e124, hx124_0⟩ := Kd.at_int (Kd.R_reads' HO_7.out).2.2 (ji39) p124 q124
               obtain rfl : ad118 = ad124 := (by injection e124)
               replace p124 := eq_true p124
               replace q124 := eq_true q124
               refine start_ (n := 30) (S := fun w' => w'.cell? ad118 = some (.int .i64 (rd t101 0)) ∧ w'.cell? (ad118.add ((ji39)).toNat) = some (.int .i64 (rd t101 (ji39))) ∧ w'.cell? ad118 = some (.int .i64 (rd t101 0)) ∧ w'.cell? (ad118.add ((ji39)).toNat) = some (.int .i64 (rd t101 (ji39)))) (ds := []) alEo1_0 (by kernel_rfl) rfl rfl ⟨hx118_0, hx120_0, hx122_0, hx124_0⟩ (fun hHeld => ?_); refine with_tabW accountinglaw08_SplitEvenOnes.tab12 accountinglaw08_SplitEvenOnes.bits12 (fun HT_ HW_ => ?_)
               generalize wc.drew = w48 at HO_7 HB hx118_0 hx120_0 hx122_0 hx124_0 hHeld ⊢
               refine pure_ (i := 0) (N := some 77) (v := ?_) (a' := ?_) alEo1_1 rfl rfl (any_of HT_.out (by kernel_rfl)) (fun _ _ _ h => h) (Or.inl ⟨by rfl, ?_⟩) ?_ ?_
               rotate_left
               ·intro w'
                go_simp
                with_reducible rfl
               rotate_left
               ·simp only [Act.put, List.setIfInBounds_toArray, List.set_cons_zero, List.set_cons_succ, i64_w, i32_w]
                rfl
               refine pure_ (i := 1) (N := some 78) (v := ?_) (a' := ?_) alEo1_2 rfl rfl (any_of HT_.out (by kernel_rfl)) (fun _ _ _ h => h) (Or.inl ⟨by rfl, ?_⟩) ?_ ?_
               rotate_left
               ·intro w'
                go_simp
                with_reducible rfl
               rotate_left
               ·simp only [Act.put, List.setIfInBounds_toArray, List.set_cons_zero, List.set_cons_succ, i64_w, i32_w]
                rfl
               refine pure_ (i := 4) (N := some 81) (v := ?_) (a' := ?_) alEo1_3 rfl rfl (any_of HT_.out (by kernel_rfl)) (fun _ _ _ h => h) (Or.inl ⟨by rfl, ?_⟩) ?_ ?_
               rotate_left
               ·intro w'
                go_simp
                with_reducible rfl
               rotate_left
               ·simp only [Act.put, List.setIfInBounds_toArray, List.set_cons_zero, List.set_cons_succ, i64_w, i32_w]
                rfl
               refine pure_ (i := 5) (N := some 82) (v := ?_) (a' := ?_) alEo1_4 rfl rfl (any_of HT_.out (by kernel_rfl)) (fun _ _ _ h => h) (Or.inl ⟨by rfl, ?_⟩) ?_ ?_
               rotate_left
               ·intro w'
                go_simp
                with_reducible rfl
               rotate_left
               ·simp only [Act.put, List.setIfInBounds_toArray, List.set_cons_zero, List.set_cons_succ, i64_w, i32_w]
                rfl
               refine pure_ (i := 6) (N := some 83) (v := ?_) (a' := ?_) alEo1_5 rfl rfl (any_of HT_.out (by kernel_rfl)) (fun _ _ _ h => h) (Or.inl ⟨by rfl, ?_⟩) ?_ ?_
               rotate_left
               ·intro w'
                go_simp
                with_reducible rfl
               rotate_left
               ·simp only [Act.put, List.setIfInBounds_toArray, List.set_cons_zero, List.set_cons_succ, i64_w, i32_w]
                rfl
               refine pure_ (i := 7) (N := some 84) (v := ?_) (a' := ?_) alEo1_6 rfl rfl (any_of HT_.out (by kernel_rfl)) (fun _ _ _ h => h) (Or.inl ⟨by rfl, ?_⟩) ?_ ?_
               rotate_left
               ·intro w'
                go_simp
                with_reducible rfl
               rotate_left
               ·simp only [Act.put, List.setIfInBounds_toArray, List.set_cons_zero, List.set_cons_succ, i64_w, i32_w]
                rfl
               refine take_ (i := 2) (N := some 79) (v := ?_) (a' := ?_) alEo1_7 rfl rfl (take_ofW HT_.out HW_.out (by kernel_rfl)) (fun _ _ _ h => h) (Or.inl ⟨by rfl, ?_⟩) hHeld ?_ ?_
               rotate_left
               ·rintro w' ⟨s0, s1, s2, s3⟩
                go_simp
                with_reducible rfl
               rotate_left
               ·simp only [Act.put, List.setIfInBounds_toArray, List.set_cons_zero, List.set_cons_succ, i64_w, i32_w]
                rfl
               refine take_ (i := 8) (N := some 85) (v := ?_) (a' := ?_) alEo1_8 rfl rfl (take_ofW HT_.out HW_.out (by kernel_rfl)) (fun _ _ _ h => h) (Or.inl ⟨by rfl, ?_⟩) hHeld ?_ ?_
               rotate_left
               ·rintro w' ⟨s0, s1, s2, s3⟩
                go_simp
                with_reducible rfl
               rotate_left
               ·simp only [Act.put, List.setIfInBounds_toArray, List.set_cons_zero, List.set_cons_succ, i64_w, i32_w]
                rfl
               refine one_ (i := 3) (N := some 80) alEo1_9 rfl rfl (one_of HT_.out (by kernel_rfl)) (by decide) (fun K hK => ?_)
               refine goes_ Try.func19 (by kernel_rfl) rfl #[.int .i64 (rd t101 0)] (by rfl) rfl rfl (by (try simp only [List.map_toArray, List.map_cons, List.map_nil]); first | done | rfl | (simp only [List.length_drop, List.length_take]; rfl)) ?_
               with_reducible refine (accountinglaw08_size.calls (rd t101 0) t119 _ A38.out).mono ?_
               rintro e w' ⟨rfl, ⟨nd, rfl⟩⟩
               refine ⟨_, rfl, ?_⟩
               refine hK.out _ _ ⟨hHeld.1, hHeld.2.1, hHeld.2.2.1, hHeld.2.2.2⟩ (fun hHeld => ?_)
               clear hK K
               refine norm_ (a' := ?_) ?_ ?_
               rotate_left
               ·show Act.put _ (some 80) _ = _
                simp only [Act.put, List.setIfInBounds_toArray, List.set_cons_zero, List.set_cons_succ, i64_w, i32_w]
                rfl
               refine one_ (i := 9) (N := some 86) alEo1_10 rfl rfl (one_of HT_.out (by kernel_rfl)) (by decide) (fun K hK => ?_)
               refine goes_ Try.func19 (by kernel_rfl) rfl #[.int .i64 (rd t101 (ji39))] (by rfl) rfl rfl (by (try simp only [List.map_toArray, List.map_cons, List.map_nil]); first | done | (simp only [hji39]; rfl) | rfl | (simp only [List.length_drop, List.length_take]; rfl)) ?_
               with_reducible refine (accountinglaw08_size.calls (rd t101 (ji39)) t121 _ A42.out).mono ?_
               rintro e w' ⟨rfl, ⟨nd, rfl⟩⟩
               refine ⟨_, rfl, ?_⟩
               refine hK.out _ _ ⟨hHeld.1, hHeld.2.1, hHeld.2.2.1, hHeld.2.2.2⟩ (fun hHeld => ?_)
               clear hK K
               refine norm_ (a' := ?_) ?_ ?_
               rotate_left
               ·show Act.put _ (some 86) _ = _
                simp only [Act.put, List.setIfInBounds_toArray, List.set_cons_zero, List.set_cons_succ, i64_w, i32_w]
                rfl
               refine pure_ (i := 10) (N := some 87) (v := ?_) (a' := ?_) alEo1_11 rfl rfl (any_of HT_.out (by kernel_rfl)) (fun _ _ _ h => h) (Or.inl ⟨by rfl, ?_⟩) ?_ ?_
               rotate_left
               ·intro w'
                go_simp
                with_reducible rfl
               rotate_left
               ·simp only [Act.put, List.setIfInBounds_toArray, List.set_cons_zero, List.set_cons_succ, i64_w, i32_w]
                rfl
               refine pure_ (i := 11) (N := some 88) (v := ?_) (a' := ?_) alEo1_12 rfl rfl (any_of HT_.out (by kernel_rfl)) (fun _ _ _ h => h) (Or.inl ⟨by rfl, ?_⟩) ?_ ?_
               rotate_left
               ·intro w'
                go_simp
                with_reducible rfl
               rotate_left
               ·simp only [Act.put, List.setIfInBounds_toArray, List.set_cons_zero, List.set_cons_succ, i64_w, i32_w]
                rfl
               refine pure_ (i := 12) (N := some 89) (v := ?_) (a' := ?_) alEo1_13 rfl rfl (any_of HT_.out (by kernel_rfl)) (fun _ _ _ h => h) (Or.inl ⟨by rfl, ?_⟩) ?_ ?_
               rotate_left
               ·intro w'
                go_simp
                with_reducible rfl
               rotate_left
               ·simp only [Act.put, List.setIfInBounds_toArray, List.set_cons_zero, List.set_cons_succ, i64_w, i32_w]
                rfl
               refine pure_ (i := 13) (N := some 90) (v := ?_) (a' := ?_) alEo1_14 rfl rfl (any_of HT_.out (by kernel_rfl)) (fun _ _ _ h => h) (Or.inl ⟨by rfl, ?_⟩) ?_ ?_
               rotate_left
               ·intro w'
                go_simp
                with_reducible rfl
               rotate_left
               ·simp only [Act.put, List.setIfInBounds_toArray, List.set_cons_zero, List.set_cons_succ, i64_w, i32_w]
                rfl
               refine pure_ (i := 14) (N := some 91) (v := ?_) (a' := ?_) alEo1_15 rfl rfl (any_of HT_.out (by kernel_rfl)) (fun _ _ _ h => h) (Or.inl ⟨by rfl, ?_⟩) ?_ ?_
               rotate_left
               ·intro w'
                go_simp
                with_reducible rfl
               rotate_left
               ·simp only [Act.put, List.setIfInBounds_toArray, List.set_cons_zero, List.set_cons_succ, i64_w, i32_w]
                rfl
               refine pure_ (i := 17) (N := some 94) (v := ?_) (a' := ?_) alEo1_16 rfl rfl (any_of HT_.out (by kernel_rfl)) (fun _ _ _ h => h) (Or.inl ⟨by rfl, ?_⟩) ?_ ?_
               rotate_left
               ·intro w'
                go_simp
                with_reducible rfl
               rotate_left
               ·simp only [Act.put, List.setIfInBounds_toArray, List.set_cons_zero, List.set_cons_succ, i64_w, i32_w]
                rfl
               refine pure_ (i := 18) (N := some 95) (v := ?_) (a' := ?_) alEo1_17 rfl rfl (any_of HT_.out (by kernel_rfl)) (fun _ _ _ h => h) (Or.inl ⟨by rfl, ?_⟩) ?_ ?_
               rotate_left
               ·intro w'
                go_simp
                with_reducible rfl
               rotate_left
               ·simp only [Act.put, List.setIfInBounds_toArray, List.set_cons_zero, List.set_cons_succ, i64_w, i32_w]
                rfl
               refine pure_ (i := 19) (N := some 96) (v := ?_) (a' := ?_) alEo1_18 rfl rfl (any_of HT_.out (by kernel_rfl)) (fun _ _ _ h => h) (Or.inl ⟨by rfl, ?_⟩) ?_ ?_
               rotate_left
               ·intro w'
                go_simp
                with_reducible rfl
               rotate_left
               ·simp only [Act.put, List.setIfInBounds_toArray, List.set_cons_zero, List.set_cons_succ, i64_w, i32_w]
                rfl
               refine pure_ (i := 20) (N := some 97) (v := ?_) (a' := ?_) alEo1_19 rfl rfl (any_of HT_.out (by kernel_rfl)) (fun _ _ _ h => h) (Or.inl ⟨by rfl, ?_⟩) ?_ ?_
               rotate_left
               ·intro w'
                go_simp
                with_reducible rfl
               rotate_left
               ·simp only [Act.put, List.setIfInBounds_toArray, List.set_cons_zero, List.set_cons_succ, i64_w, i32_w]
                rfl
               refine take_ (i := 15) (N := some 92) (v := ?_) (a' := ?_) alEo1_20 rfl rfl (take_ofW HT_.out HW_.out (by kernel_rfl)) (fun _ _ _ h => h) (Or.inl ⟨by rfl, ?_⟩) hHeld ?_ ?_
               rotate_left
               ·rintro w' ⟨s0, s1, s2, s3⟩
                go_simp
                with_reducible rfl
               rotate_left
               ·simp only [Act.put, List.setIfInBounds_toArray, List.set_cons_zero, List.set_cons_succ, i64_w, i32_w]
                rfl
               refine take_ (i := 21) (N := some 98) (v := ?_) (a' := ?_) alEo1_21 rfl rfl (take_ofW HT_.out HW_.out (by kernel_rfl)) (fun _ _ _ h => h) (Or.inl ⟨by rfl, ?_⟩) hHeld ?_ ?_
               rotate_left
               ·rintro w' ⟨s0, s1, s2, s3⟩
                go_simp
                with_reducible rfl
               rotate_left
               ·simp only [Act.put, List.setIfInBounds_toArray, List.set_cons_zero, List.set_cons_succ, i64_w, i32_w]
                rfl
               refine one_ (i := 16) (N := some 93) alEo1_22 rfl rfl (one_of HT_.out (by kernel_rfl)) (by decide) (fun K hK => ?_)
               refine goes_ Try.func19 (by kernel_rfl) rfl #[.int .i64 (rd t101 0)] (by rfl) rfl rfl (by (try simp only [List.map_toArray, List.map_cons, List.map_nil]); first | done | rfl | (simp only [List.length_drop, List.length_take]; rfl)) ?_
               with_reducible refine (accountinglaw08_size.calls (rd t101 0) t123 _ A44.out).mono ?_
               rintro e w' ⟨rfl, ⟨nd, rfl⟩⟩
               refine ⟨_, rfl, ?_⟩
               refine hK.out _ _ ⟨hHeld.1, hHeld.2.1, hHeld.2.2.1, hHeld.2.2.2⟩ (fun hHeld => ?_)
               clear hK K
               refine norm_ (a' := ?_) ?_ ?_
               rotate_left
               ·show Act.put _ (some 93) _ = _
                simp only [Act.put, List.setIfInBounds_toArray, List.set_cons_zero, List.set_cons_succ, i64_w, i32_w]
                rfl
               refine one_ (i := 22) (N := some 99) alEo1_23 rfl rfl (one_of HT_.out (by kernel_rfl)) (by decide) (fun K hK => ?_)
               refine goes_ Try.func19 (by kernel_rfl) rfl #[.int .i64 (rd t101 (ji39))] (by rfl) rfl rfl (by (try simp only [List.map_toArray, List.map_cons, List.map_nil]); first | done | (simp only [hji39]; rfl) | rfl | (simp only [List.length_drop, List.length_take]; rfl)) ?_
               with_reducible refine (accountinglaw08_size.calls (rd t101 (ji39)) t125 _ A45.out).mono ?_
               rintro e w' ⟨rfl, ⟨nd, rfl⟩⟩
               refine ⟨_, rfl, ?_⟩
               refine hK.out _ _ ⟨hHeld.1, hHeld.2.1, hHeld.2.2.1, hHeld.2.2.2⟩ (fun hHeld => ?_)
               clear hK K
               refine norm_ (a' := ?_) ?_ ?_
               rotate_left
               ·show Act.put _ (some 99) _ = _
                simp only [Act.put, List.setIfInBounds_toArray, List.set_cons_zero, List.set_cons_succ, i64_w, i32_w]
                rfl
               refine pure_ (i := 23) (N := some 100) (v := ?_) (a' := ?_) alEo1_24 rfl rfl (any_of HT_.out (by kernel_rfl)) (fun _ _ _ h => h) (Or.inl ⟨by rfl, ?_⟩) ?_ ?_
               rotate_left
               ·intro w'
                go_simp
                with_reducible rfl
               rotate_left
               ·simp only [Act.put, List.setIfInBounds_toArray, List.set_cons_zero, List.set_cons_succ, i64_w, i32_w]
                rfl
               refine pure_ (i := 24) (N := some 101) (v := ?_) (a' := ?_) alEo1_25 rfl rfl (any_of HT_.out (by kernel_rfl)) (fun _ _ _ h => h) (Or.inl ⟨by rfl, ?_⟩) ?_ ?_
               rotate_left
               ·intro w'
                go_simp
                with_reducible rfl
               rotate_left
               ·simp only [Act.put, List.setIfInBounds_toArray, List.set_cons_zero, List.set_cons_succ, i64_w, i32_w]
                rfl
               refine pure_ (i := 25) (N := some 102) (v := ?_) (a' := ?_) alEo1_26 rfl rfl (any_of HT_.out (by kernel_rfl)) (fun _ _ _ h => h) (Or.inl ⟨by rfl, ?_⟩) ?_ ?_
               rotate_left
               ·intro w'
                go_simp
                with_reducible rfl
               rotate_left
               ·simp only [Act.put, List.setIfInBounds_toArray, List.set_cons_zero, List.set_cons_succ, i64_w, i32_w]
                rfl
               refine pure_ (i := 26) (N := some 103) (v := ?_) (a' := ?_) alEo1_27 rfl rfl (any_of HT_.out (by kernel_rfl)) (fun _ _ _ h => h) (Or.inl ⟨by rfl, ?_⟩) ?_ ?_
               rotate_left
               ·intro w'
                go_simp
                with_reducible rfl
               rotate_left
               ·simp only [Act.put, List.setIfInBounds_toArray, List.set_cons_zero, List.set_cons_succ, i64_w, i32_w]
                rfl
               refine one_ (i := 27) (N := some 104) alEo1_28 rfl rfl (one_of HT_.out (by kernel_rfl)) (by decide) (fun K hK => ?_)
               refine goes_ Try.func13 (by kernel_rfl) rfl #[] (by rfl) rfl rfl (by (try simp only [List.map_toArray, List.map_cons, List.map_nil]); first | done | rfl | (simp only [List.length_drop, List.length_take]; rfl)) ?_
               with_reducible refine (accountinglaw08_lives.calls kj25  t126 _ A47.out).mono ?_
               rintro e w50 ⟨rfl, hb⟩
               have HS0_ := (hb.cell (World.block_lt_of_cell? _ _ (hHeld.1))).trans (hHeld.1)
               have HS1_ := (hb.cell (World.block_lt_of_cell? _ _ (hHeld.2.1))).trans (hHeld.2.1)
               have HS2_ := (hb.cell (World.block_lt_of_cell? _ _ (hHeld.2.2.1))).trans (hHeld.2.2.1)
               have HS3_ := (hb.cell (World.block_lt_of_cell? _ _ (hHeld.2.2.2))).trans (hHeld.2.2.2)
               refine ⟨_, rfl, ?_⟩
               have n0_ := Aside0.mk (Kd.R_below (by (with_reducible repeat (first | apply Kd.R_alloc | apply Kd.R_drewN | apply Kd.R_drew)); exact HO_7.out) hb)
               have n1_ := Aside0.mk (below_step (by repeat (first | (with_reducible first | exact HB.out | apply below_alloc | apply pw_below_drewN | apply below_drew1) | exact HB.out)) hb)
               clear HO_7
               clear HB
               have HO_7 := n0_
               have HB := n1_
               clear n0_ n1_
               (try clear hb)
               (try clear hb2)
               (try clear hk)
               (try clear hi)
               refine hK.out _ _ ⟨HS0_, HS1_, HS2_, HS3_⟩ (fun hHeld => ?_)
               clear hK K
               refine norm_ (a' := ?_) ?_ ?_
               rotate_left
               ·show Act.put _ (some 104) _ = _
                simp only [Act.put, List.setIfInBounds_toArray, List.set_cons_zero, List.set_cons_succ, i64_w, i32_w]
                rfl
               refine pure_ (i := 28) (N := some 105) (v := ?_) (a' := ?_) alEo1_29 rfl rfl (any_of HT_.out (by kernel_rfl)) (fun _ _ _ h => h) (Or.inl ⟨by rfl, ?_⟩) ?_ ?_
               rotate_left
               ·intro w'
                go_simp
                with_reducible rfl
               rotate_left
               ·simp only [Act.put, List.setIfInBounds_toArray, List.set_cons_zero, List.set_cons_succ, i64_w, i32_w]
                rfl
               refine pure_ (i := 29) (N := some 6) (v := ?_) (a' := ?_) alEo1_30 rfl rfl (any_of HT_.out (by kernel_rfl)) (fun _ _ _ h => h) (Or.inl ⟨by rfl, ?_⟩) ?_ ?_
               rotate_left
               ·intro w'
                go_simp
                with_reducible rfl
               rotate_left
               ·simp only [Act.put, List.setIfInBounds_toArray, List.set_cons_zero, List.set_cons_succ, i64_w, i32_w]
                rfl
               refine done_ (done_of HT_.out (by kernel_rfl)) ?_
               try go_wp2
               go_ret
               exact ⟨by first | rfl | (simp [errW_none, errW_some] <;> rfl) | (simp only [← hji39]; first | rfl | (simp [errW_none, errW_some] <;> rfl)) | (simp [*, errW_none, errW_some] <;> rfl), by repeat (first | (with_reducible first | exact HB.out | apply below_alloc | apply pw_below_drewN | apply below_drew1) | exact HB.out)⟩
              ·rw [if_neg c46] at H
               have c46b0 : decide ((wrap64 (t123 - t125)) ≤ 1) = false := decide_eq_false c46
               clear c46
               obtain rfl := Option.some.inj H
               try go_wp2
               have n0_ := Aside0.mk (Kd.R_drew HO_7.out)
               have n1_ := Aside0.mk (below_drew1 HB.out)
               clear HO_7
               clear HB
               have HO_7 := n0_
               have HB := n1_
               clear n0_ n1_
               obtain ⟨Ao52, co52, eo52⟩ := Kd.R_slice HO_7.out
               (first | subst eo52 | (injection eo52 with f1_ f2_ f3_; have f4_ := f1_.symm; have f5_ := f3_.symm; clear f1_ f2_ f3_; subst f4_; subst f5_))
               have p118 : 0 ≤ (0 : Int) := (by omega)
               have q118 : 0 < (t101.length : Int) := of_decide_eq_true (by first | (with_reducible assumption) | assumption)
               obtain ⟨ad118, e118, hx118_0⟩ := Kd.at_int (Kd.R_reads' HO_7.out).2.2 0 p118 q118
               cases e118
               have qi118 : (0 < t101.length) = True := eq_true (by omega)
               (try rw [show ((0 : Int)).toNat = 0 from rfl] at hx118_0)
               (try rw [Addr.add_zero'] at hx118_0)
               replace p118 := eq_true p118
               replace q118 := eq_true q118
               have p120 : 0 ≤ ((ji39) : Int) := of_decide_eq_true (by first | (with_reducible assumption) | assumption)
               have q120 : (ji39) < (t101.length : Int) := of_decide_eq_true (by first | (with_reducible assumption) | assumption)
               obtain ⟨ad120, e120, hx120_0⟩ := Kd.at_int (Kd.R_reads' HO_7.out).2.2 (ji39) p120 q120
               obtain rfl : ad118 = ad120 := (by injection e120)
               replace p120 := eq_true p120
               replace q120 := eq_true q120
               have p122 : 0 ≤ (0 : Int) := (by omega)
               have q122 : 0 < (t101.length : Int) := of_decide_eq_true (by first | (with_reducible assumption) | assumption)
               obtain ⟨ad122, e122, hx122_0⟩ := Kd.at_int (Kd.R_reads' HO_7.out).2.2 0 p122 q122
               obtain rfl : ad118 = ad122 := (by injection e122)
               have qi122 : (0 < t101.length) = True := eq_true (by omega)
               (try rw [show ((0 : Int)).toNat = 0 from rfl] at hx122_0)
               (try rw [Addr.add_zero'] at hx122_0)
               replace p122 := eq_true p122
               replace q122 := eq_true q122
               have p124 : 0 ≤ ((ji39) : Int) := of_decide_eq_true (by first | (with_reducible assumption) | assumption)
               have q124 : (ji39) < (t101.length : Int) := of_decide_eq_true (by first | (with_reducible assumption) | assumption)
               obtain ⟨ad124, e124, hx124_0⟩ := Kd.at_int (Kd.R_reads' HO_7.out).2.2 (ji39) p124 q124
               obtain rfl : ad118 = ad124 := (by injection e124)
               replace p124 := eq_true p124
               replace q124 := eq_true q124
               refine start_ (n := 30) (S := fun w' => w'.cell? ad118 = some (.int .i64 (rd t101 0)) ∧ w'.cell? (ad118.add ((ji39)).toNat) = some (.int .i64 (rd t101 (ji39))) ∧ w'.cell? ad118 = some (.int .i64 (rd t101 0)) ∧ w'.cell? (ad118.add ((ji39)).toNat) = some (.int .i64 (rd t101 (ji39)))) (ds := []) alEo1_0 (by kernel_rfl) rfl rfl ⟨hx118_0, hx120_0, hx122_0, hx124_0⟩ (fun hHeld => ?_); refine with_tabW accountinglaw08_SplitEvenOnes.tab12 accountinglaw08_SplitEvenOnes.bits12 (fun HT_ HW_ => ?_)
               generalize wc.drew = w51 at HO_7 HB hx118_0 hx120_0 hx122_0 hx124_0 hHeld ⊢
               refine pure_ (i := 0) (N := some 77) (v := ?_) (a' := ?_) alEo1_1 rfl rfl (any_of HT_.out (by kernel_rfl)) (fun _ _ _ h => h) (Or.inl ⟨by rfl, ?_⟩) ?_ ?_
               rotate_left
               ·intro w'
                go_simp
                with_reducible rfl
               rotate_left
               ·simp only [Act.put, List.setIfInBounds_toArray, List.set_cons_zero, List.set_cons_succ, i64_w, i32_w]
                rfl
               refine pure_ (i := 1) (N := some 78) (v := ?_) (a' := ?_) alEo1_2 rfl rfl (any_of HT_.out (by kernel_rfl)) (fun _ _ _ h => h) (Or.inl ⟨by rfl, ?_⟩) ?_ ?_
               rotate_left
               ·intro w'
                go_simp
                with_reducible rfl
               rotate_left
               ·simp only [Act.put, List.setIfInBounds_toArray, List.set_cons_zero, List.set_cons_succ, i64_w, i32_w]
                rfl
               refine pure_ (i := 4) (N := some 81) (v := ?_) (a' := ?_) alEo1_3 rfl rfl (any_of HT_.out (by kernel_rfl)) (fun _ _ _ h => h) (Or.inl ⟨by rfl, ?_⟩) ?_ ?_
               rotate_left
               ·intro w'
                go_simp
                with_reducible rfl
               rotate_left
               ·simp only [Act.put, List.setIfInBounds_toArray, List.set_cons_zero, List.set_cons_succ, i64_w, i32_w]
                rfl
               refine pure_ (i := 5) (N := some 82) (v := ?_) (a' := ?_) alEo1_4 rfl rfl (any_of HT_.out (by kernel_rfl)) (fun _ _ _ h => h) (Or.inl ⟨by rfl, ?_⟩) ?_ ?_
               rotate_left
               ·intro w'
                go_simp
                with_reducible rfl
               rotate_left
               ·simp only [Act.put, List.setIfInBounds_toArray, List.set_cons_zero, List.set_cons_succ, i64_w, i32_w]
                rfl
               refine pure_ (i := 6) (N := some 83) (v := ?_) (a' := ?_) alEo1_5 rfl rfl (any_of HT_.out (by kernel_rfl)) (fun _ _ _ h => h) (Or.inl ⟨by rfl, ?_⟩) ?_ ?_
               rotate_left
               ·intro w'
                go_simp
                with_reducible rfl
               rotate_left
               ·simp only [Act.put, List.setIfInBounds_toArray, List.set_cons_zero, List.set_cons_succ, i64_w, i32_w]
                rfl
               refine pure_ (i := 7) (N := some 84) (v := ?_) (a' := ?_) alEo1_6 rfl rfl (any_of HT_.out (by kernel_rfl)) (fun _ _ _ h => h) (Or.inl ⟨by rfl, ?_⟩) ?_ ?_
               rotate_left
               ·intro w'
                go_simp
                with_reducible rfl
               rotate_left
               ·simp only [Act.put, List.setIfInBounds_toArray, List.set_cons_zero, List.set_cons_succ, i64_w, i32_w]
                rfl
               refine take_ (i := 2) (N := some 79) (v := ?_) (a' := ?_) alEo1_7 rfl rfl (take_ofW HT_.out HW_.out (by kernel_rfl)) (fun _ _ _ h => h) (Or.inl ⟨by rfl, ?_⟩) hHeld ?_ ?_
               rotate_left
               ·rintro w' ⟨s0, s1, s2, s3⟩
                go_simp
                with_reducible rfl
               rotate_left
               ·simp only [Act.put, List.setIfInBounds_toArray, List.set_cons_zero, List.set_cons_succ, i64_w, i32_w]
                rfl
               refine take_ (i := 8) (N := some 85) (v := ?_) (a' := ?_) alEo1_8 rfl rfl (take_ofW HT_.out HW_.out (by kernel_rfl)) (fun _ _ _ h => h) (Or.inl ⟨by rfl, ?_⟩) hHeld ?_ ?_
               rotate_left
               ·rintro w' ⟨s0, s1, s2, s3⟩
                go_simp
                with_reducible rfl
               rotate_left
               ·simp only [Act.put, List.setIfInBounds_toArray, List.set_cons_zero, List.set_cons_succ, i64_w, i32_w]
                rfl
               refine one_ (i := 3) (N := some 80) alEo1_9 rfl rfl (one_of HT_.out (by kernel_rfl)) (by decide) (fun K hK => ?_)
               refine goes_ Try.func19 (by kernel_rfl) rfl #[.int .i64 (rd t101 0)] (by rfl) rfl rfl (by (try simp only [List.map_toArray, List.map_cons, List.map_nil]); first | done | rfl | (simp only [List.length_drop, List.length_take]; rfl)) ?_
               with_reducible refine (accountinglaw08_size.calls (rd t101 0) t119 _ A38.out).mono ?_
               rintro e w' ⟨rfl, ⟨nd, rfl⟩⟩
               refine ⟨_, rfl, ?_⟩
               refine hK.out _ _ ⟨hHeld.1, hHeld.2.1, hHeld.2.2.1, hHeld.2.2.2⟩ (fun hHeld => ?_)
               clear hK K
               refine norm_ (a' := ?_) ?_ ?_
               rotate_left
               ·show Act.put _ (some 80) _ = _
                simp only [Act.put, List.setIfInBounds_toArray, List.set_cons_zero, List.set_cons_succ, i64_w, i32_w]
                rfl
               refine one_ (i := 9) (N := some 86) alEo1_10 rfl rfl (one_of HT_.out (by kernel_rfl)) (by decide) (fun K hK => ?_)
               refine goes_ Try.func19 (by kernel_rfl) rfl #[.int .i64 (rd t101 (ji39))] (by rfl) rfl rfl (by (try simp only [List.map_toArray, List.map_cons, List.map_nil]); first | done | (simp only [hji39]; rfl) | rfl | (simp only [List.length_drop, List.length_take]; rfl)) ?_
               with_reducible refine (accountinglaw08_size.calls (rd t101 (ji39)) t121 _ A42.out).mono ?_
               rintro e w' ⟨rfl, ⟨nd, rfl⟩⟩
               refine ⟨_, rfl, ?_⟩
               refine hK.out _ _ ⟨hHeld.1, hHeld.2.1, hHeld.2.2.1, hHeld.2.2.2⟩ (fun hHeld => ?_)
               clear hK K
               refine norm_ (a' := ?_) ?_ ?_
               rotate_left
               ·show Act.put _ (some 86) _ = _
                simp only [Act.put, List.setIfInBounds_toArray, List.set_cons_zero, List.set_cons_succ, i64_w, i32_w]
                rfl
               refine pure_ (i := 10) (N := some 87) (v := ?_) (a' := ?_) alEo1_11 rfl rfl (any_of HT_.out (by kernel_rfl)) (fun _ _ _ h => h) (Or.inl ⟨by rfl, ?_⟩) ?_ ?_
               rotate_left
               ·intro w'
                go_simp
                with_reducible rfl
               rotate_left
               ·simp only [Act.put, List.setIfInBounds_toArray, List.set_cons_zero, List.set_cons_succ, i64_w, i32_w]
                rfl
               refine pure_ (i := 11) (N := some 88) (v := ?_) (a' := ?_) alEo1_12 rfl rfl (any_of HT_.out (by kernel_rfl)) (fun _ _ _ h => h) (Or.inl ⟨by rfl, ?_⟩) ?_ ?_
               rotate_left
               ·intro w'
                go_simp
                with_reducible rfl
               rotate_left
               ·simp only [Act.put, List.setIfInBounds_toArray, List.set_cons_zero, List.set_cons_succ, i64_w, i32_w]
                rfl
               refine pure_ (i := 12) (N := some 89) (v := ?_) (a' := ?_) alEo1_13 rfl rfl (any_of HT_.out (by kernel_rfl)) (fun _ _ _ h => h) (Or.inl ⟨by rfl, ?_⟩) ?_ ?_
               rotate_left
               ·intro w'
                go_simp
                with_reducible rfl
               rotate_left
               ·simp only [Act.put, List.setIfInBounds_toArray, List.set_cons_zero, List.set_cons_succ, i64_w, i32_w]
                rfl
               refine pure_ (i := 13) (N := some 90) (v := ?_) (a' := ?_) alEo1_14 rfl rfl (any_of HT_.out (by kernel_rfl)) (fun _ _ _ h => h) (Or.inl ⟨by rfl, ?_⟩) ?_ ?_
               rotate_left
               ·intro w'
                go_simp
                with_reducible rfl
               rotate_left
               ·simp only [Act.put, List.setIfInBounds_toArray, List.set_cons_zero, List.set_cons_succ, i64_w, i32_w]
                rfl
               refine pure_ (i := 14) (N := some 91) (v := ?_) (a' := ?_) alEo1_15 rfl rfl (any_of HT_.out (by kernel_rfl)) (fun _ _ _ h => h) (Or.inl ⟨by rfl, ?_⟩) ?_ ?_
               rotate_left
               ·intro w'
                go_simp
                with_reducible rfl
               rotate_left
               ·simp only [Act.put, List.setIfInBounds_toArray, List.set_cons_zero, List.set_cons_succ, i64_w, i32_w]
                rfl
               refine pure_ (i := 17) (N := some 94) (v := ?_) (a' := ?_) alEo1_16 rfl rfl (any_of HT_.out (by kernel_rfl)) (fun _ _ _ h => h) (Or.inl ⟨by rfl, ?_⟩) ?_ ?_
               rotate_left
               ·intro w'
                go_simp
                with_reducible rfl
               rotate_left
               ·simp only [Act.put, List.setIfInBounds_toArray, List.set_cons_zero, List.set_cons_succ, i64_w, i32_w]
                rfl
               refine pure_ (i := 18) (N := some 95) (v := ?_) (a' := ?_) alEo1_17 rfl rfl (any_of HT_.out (by kernel_rfl)) (fun _ _ _ h => h) (Or.inl ⟨by rfl, ?_⟩) ?_ ?_
               rotate_left
               ·intro w'
                go_simp
                with_reducible rfl
               rotate_left
               ·simp only [Act.put, List.setIfInBounds_toArray, List.set_cons_zero, List.set_cons_succ, i64_w, i32_w]
                rfl
               refine pure_ (i := 19) (N := some 96) (v := ?_) (a' := ?_) alEo1_18 rfl rfl (any_of HT_.out (by kernel_rfl)) (fun _ _ _ h => h) (Or.inl ⟨by rfl, ?_⟩) ?_ ?_
               rotate_left
               ·intro w'
                go_simp
                with_reducible rfl
               rotate_left
               ·simp only [Act.put, List.setIfInBounds_toArray, List.set_cons_zero, List.set_cons_succ, i64_w, i32_w]
                rfl
               refine pure_ (i := 20) (N := some 97) (v := ?_) (a' := ?_) alEo1_19 rfl rfl (any_of HT_.out (by kernel_rfl)) (fun _ _ _ h => h) (Or.inl ⟨by rfl, ?_⟩) ?_ ?_
               rotate_left
               ·intro w'
                go_simp
                with_reducible rfl
               rotate_left
               ·simp only [Act.put, List.setIfInBounds_toArray, List.set_cons_zero, List.set_cons_succ, i64_w, i32_w]
                rfl
               refine take_ (i := 15) (N := some 92) (v := ?_) (a' := ?_) alEo1_20 rfl rfl (take_ofW HT_.out HW_.out (by kernel_rfl)) (fun _ _ _ h => h) (Or.inl ⟨by rfl, ?_⟩) hHeld ?_ ?_
               rotate_left
               ·rintro w' ⟨s0, s1, s2, s3⟩
                go_simp
                with_reducible rfl
               rotate_left
               ·simp only [Act.put, List.setIfInBounds_toArray, List.set_cons_zero, List.set_cons_succ, i64_w, i32_w]
                rfl
               refine take_ (i := 21) (N := some 98) (v := ?_) (a' := ?_) alEo1_21 rfl rfl (take_ofW HT_.out HW_.out (by kernel_rfl)) (fun _ _ _ h => h) (Or.inl ⟨by rfl, ?_⟩) hHeld ?_ ?_
               rotate_left
               ·rintro w' ⟨s0, s1, s2, s3⟩
                go_simp
                with_reducible rfl
               rotate_left
               ·simp only [Act.put, List.setIfInBounds_toArray, List.set_cons_zero, List.set_cons_succ, i64_w, i32_w]
                rfl
               refine one_ (i := 16) (N := some 93) alEo1_22 rfl rfl (one_of HT_.out (by kernel_rfl)) (by decide) (fun K hK => ?_)
               refine goes_ Try.func19 (by kernel_rfl) rfl #[.int .i64 (rd t101 0)] (by rfl) rfl rfl (by (try simp only [List.map_toArray, List.map_cons, List.map_nil]); first | done | rfl | (simp only [List.length_drop, List.length_take]; rfl)) ?_
               with_reducible refine (accountinglaw08_size.calls (rd t101 0) t123 _ A44.out).mono ?_
               rintro e w' ⟨rfl, ⟨nd, rfl⟩⟩
               refine ⟨_, rfl, ?_⟩
               refine hK.out _ _ ⟨hHeld.1, hHeld.2.1, hHeld.2.2.1, hHeld.2.2.2⟩ (fun hHeld => ?_)
               clear hK K
               refine norm_ (a' := ?_) ?_ ?_
               rotate_left
               ·show Act.put _ (some 93) _ = _
                simp only [Act.put, List.setIfInBounds_toArray, List.set_cons_zero, List.set_cons_succ, i64_w, i32_w]
                rfl
               refine one_ (i := 22) (N := some 99) alEo1_23 rfl rfl (one_of HT_.out (by kernel_rfl)) (by decide) (fun K hK => ?_)
               refine goes_ Try.func19 (by kernel_rfl) rfl #[.int .i64 (rd t101 (ji39))] (by rfl) rfl rfl (by (try simp only [List.map_toArray, List.map_cons, List.map_nil]); first | done | (simp only [hji39]; rfl) | rfl | (simp only [List.length_drop, List.length_take]; rfl)) ?_
               with_reducible refine (accountinglaw08_size.calls (rd t101 (ji39)) t125 _ A45.out).mono ?_
               rintro e w' ⟨rfl, ⟨nd, rfl⟩⟩
               refine ⟨_, rfl, ?_⟩
               refine hK.out _ _ ⟨hHeld.1, hHeld.2.1, hHeld.2.2.1, hHeld.2.2.2⟩ (fun hHeld => ?_)
               clear hK K
               refine norm_ (a' := ?_) ?_ ?_
               rotate_left
               ·show Act.put _ (some 99) _ = _
                simp only [Act.put, List.setIfInBounds_toArray, List.set_cons_zero, List.set_cons_succ, i64_w, i32_w]
                rfl
               refine pure_ (i := 23) (N := some 100) (v := ?_) (a' := ?_) alEo1_24 rfl rfl (any_of HT_.out (by kernel_rfl)) (fun _ _ _ h => h) (Or.inl ⟨by rfl, ?_⟩) ?_ ?_
               rotate_left
               ·intro w'
                go_simp
                with_reducible rfl
               rotate_left
               ·simp only [Act.put, List.setIfInBounds_toArray, List.set_cons_zero, List.set_cons_succ, i64_w, i32_w]
                rfl
               refine pure_ (i := 24) (N := some 101) (v := ?_) (a' := ?_) alEo1_25 rfl rfl (any_of HT_.out (by kernel_rfl)) (fun _ _ _ h => h) (Or.inl ⟨by rfl, ?_⟩) ?_ ?_
               rotate_left
               ·intro w'
                go_simp
                with_reducible rfl
               rotate_left
               ·simp only [Act.put, List.setIfInBounds_toArray, List.set_cons_zero, List.set_cons_succ, i64_w, i32_w]
                rfl
               refine pure_ (i := 25) (N := some 102) (v := ?_) (a' := ?_) alEo1_26 rfl rfl (any_of HT_.out (by kernel_rfl)) (fun _ _ _ h => h) (Or.inl ⟨by rfl, ?_⟩) ?_ ?_
               rotate_left
               ·intro w'
                go_simp
                with_reducible rfl
               rotate_left
               ·simp only [Act.put, List.setIfInBounds_toArray, List.set_cons_zero, List.set_cons_succ, i64_w, i32_w]
                rfl
               refine pure_ (i := 26) (N := some 103) (v := ?_) (a' := ?_) alEo1_27 rfl rfl (any_of HT_.out (by kernel_rfl)) (fun _ _ _ h => h) (Or.inl ⟨by rfl, ?_⟩) ?_ ?_
               rotate_left
               ·intro w'
                go_simp
                with_reducible rfl
               rotate_left
               ·simp only [Act.put, List.setIfInBounds_toArray, List.set_cons_zero, List.set_cons_succ, i64_w, i32_w]
                rfl
               refine pure_ (i := 27) (N := some 104) (v := undef) (a' := ?_) alEo1_28 rfl rfl (any_of HT_.out (by kernel_rfl)) (fun _ _ _ h => h) (Or.inr ⟨by rfl, rfl⟩) ?_ ?_
               rotate_left
               ·simp only [Act.put, List.setIfInBounds_toArray, List.set_cons_zero, List.set_cons_succ, i64_w, i32_w]
                rfl
               refine pure_ (i := 28) (N := some 105) (v := ?_) (a' := ?_) alEo1_29 rfl rfl (any_of HT_.out (by kernel_rfl)) (fun _ _ _ h => h) (Or.inl ⟨by rfl, ?_⟩) ?_ ?_
               rotate_left
               ·intro w'
                go_simp
                with_reducible rfl
               rotate_left
               ·simp only [Act.put, List.setIfInBounds_toArray, List.set_cons_zero, List.set_cons_succ, i64_w, i32_w]
                rfl
               refine pure_ (i := 29) (N := some 6) (v := ?_) (a' := ?_) alEo1_30 rfl rfl (any_of HT_.out (by kernel_rfl)) (fun _ _ _ h => h) (Or.inl ⟨by rfl, ?_⟩) ?_ ?_
               rotate_left
               ·intro w'
                go_simp
                with_reducible rfl
               rotate_left
               ·simp only [Act.put, List.setIfInBounds_toArray, List.set_cons_zero, List.set_cons_succ, i64_w, i32_w]
                rfl
               refine done_ (done_of HT_.out (by kernel_rfl)) ?_
               try go_wp2
               go_ret
               exact ⟨by first | rfl | (simp [errW_none, errW_some] <;> rfl) | (simp only [← hji39]; first | rfl | (simp [errW_none, errW_some] <;> rfl)) | (simp [*, errW_none, errW_some] <;> rfl), by repeat (first | (with_reducible first | exact HB.out | apply below_alloc | apply pw_below_drewN | apply below_drew1) | exact HB.out)⟩
             ·rw [if_neg c43] at H
              have c43b0 : decide (0 ≤ (wrap64 (t119 - t121))) = false := decide_eq_false c43
              clear c43
              obtain rfl := Option.some.inj H
              try go_wp2
              have n0_ := Aside0.mk (Kd.R_drew HO_7.out)
              have n1_ := Aside0.mk (below_drew1 HB.out)
              clear HO_7
              clear HB
              have HO_7 := n0_
              have HB := n1_
              clear n0_ n1_
              obtain ⟨Ao54, co54, eo54⟩ := Kd.R_slice HO_7.out
              (first | subst eo54 | (injection eo54 with f1_ f2_ f3_; have f4_ := f1_.symm; have f5_ := f3_.symm; clear f1_ f2_ f3_; subst f4_; subst f5_))
              have p118 : 0 ≤ (0 : Int) := (by omega)
              have q118 : 0 < (t101.length : Int) := of_decide_eq_true (by first | (with_reducible assumption) | assumption)
              obtain ⟨ad118, e118, hx118_0⟩ := Kd.at_int (Kd.R_reads' HO_7.out).2.2 0 p118 q118
              cases e118
              have qi118 : (0 < t101.length) = True := eq_true (by omega)
              (try rw [show ((0 : Int)).toNat = 0 from rfl] at hx118_0)
              (try rw [Addr.add_zero'] at hx118_0)
              replace p118 := eq_true p118
              replace q118 := eq_true q118
              have p120 : 0 ≤ ((ji39) : Int) := of_decide_eq_true (by first | (with_reducible assumption) | assumption)
              have q120 : (ji39) < (t101.length : Int) := of_decide_eq_true (by first | (with_reducible assumption) | assumption)
              obtain ⟨ad120, e120, hx120_0⟩ := Kd.at_int (Kd.R_reads' HO_7.out).2.2 (ji39) p120 q120
              obtain rfl : ad118 = ad120 := (by injection e120)
              replace p120 := eq_true p120
              replace q120 := eq_true q120
              refine start_ (n := 30) (S := fun w' => w'.cell? ad118 = some (.int .i64 (rd t101 0)) ∧ w'.cell? (ad118.add ((ji39)).toNat) = some (.int .i64 (rd t101 (ji39)))) (ds := []) alEo1_0 (by kernel_rfl) rfl rfl ⟨hx118_0, hx120_0⟩ (fun hHeld => ?_); refine with_tabW accountinglaw08_SplitEvenOnes.tab12 accountinglaw08_SplitEvenOnes.bits12 (fun HT_ HW_ => ?_)
              generalize wc.drew = w53 at HO_7 HB hx118_0 hx120_0 hHeld ⊢
              refine pure_ (i := 0) (N := some 77) (v := ?_) (a' := ?_) alEo1_1 rfl rfl (any_of HT_.out (by kernel_rfl)) (fun _ _ _ h => h) (Or.inl ⟨by rfl, ?_⟩) ?_ ?_
              rotate_left
              ·intro w'
               go_simp
               with_reducible rfl
              rotate_left
              ·simp only [Act.put, List.setIfInBounds_toArray, List.set_cons_zero, List.set_cons_succ, i64_w, i32_w]
               rfl
              refine pure_ (i := 1) (N := some 78) (v := ?_) (a' := ?_) alEo1_2 rfl rfl (any_of HT_.out (by kernel_rfl)) (fun _ _ _ h => h) (Or.inl ⟨by rfl, ?_⟩) ?_ ?_
              rotate_left
              ·intro w'
               go_simp
               with_reducible rfl
              rotate_left
              ·simp only [Act.put, List.setIfInBounds_toArray, List.set_cons_zero, List.set_cons_succ, i64_w, i32_w]
               rfl
              refine pure_ (i := 4) (N := some 81) (v := ?_) (a' := ?_) alEo1_3 rfl rfl (any_of HT_.out (by kernel_rfl)) (fun _ _ _ h => h) (Or.inl ⟨by rfl, ?_⟩) ?_ ?_
              rotate_left
              ·intro w'
               go_simp
               with_reducible rfl
              rotate_left
              ·simp only [Act.put, List.setIfInBounds_toArray, List.set_cons_zero, List.set_cons_succ, i64_w, i32_w]
               rfl
              refine pure_ (i := 5) (N := some 82) (v := ?_) (a' := ?_) alEo1_4 rfl rfl (any_of HT_.out (by kernel_rfl)) (fun _ _ _ h => h) (Or.inl ⟨by rfl, ?_⟩) ?_ ?_
              rotate_left
              ·intro w'
               go_simp
               with_reducible rfl
              rotate_left
              ·simp only [Act.put, List.setIfInBounds_toArray, List.set_cons_zero, List.set_cons_succ, i64_w, i32_w]
               rfl
              refine pure_ (i := 6) (N := some 83) (v := ?_) (a' := ?_) alEo1_5 rfl rfl (any_of HT_.out (by kernel_rfl)) (fun _ _ _ h => h) (Or.inl ⟨by rfl, ?_⟩) ?_ ?_
              rotate_left
              ·intro w'
               go_simp
               with_reducible rfl
              rotate_left
              ·simp only [Act.put, List.setIfInBounds_toArray, List.set_cons_zero, List.set_cons_succ, i64_w, i32_w]
               rfl
              refine pure_ (i := 7) (N := some 84) (v := ?_) (a' := ?_) alEo1_6 rfl rfl (any_of HT_.out (by kernel_rfl)) (fun _ _ _ h => h) (Or.inl ⟨by rfl, ?_⟩) ?_ ?_
              rotate_left
              ·intro w'
               go_simp
               with_reducible rfl
              rotate_left
              ·simp only [Act.put, List.setIfInBounds_toArray, List.set_cons_zero, List.set_cons_succ, i64_w, i32_w]
               rfl
              refine take_ (i := 2) (N := some 79) (v := ?_) (a' := ?_) alEo1_7 rfl rfl (take_ofW HT_.out HW_.out (by kernel_rfl)) (fun _ _ _ h => h) (Or.inl ⟨by rfl, ?_⟩) hHeld ?_ ?_
              rotate_left
              ·rintro w' ⟨s0, s1⟩
               go_simp
               with_reducible rfl
              rotate_left
              ·simp only [Act.put, List.setIfInBounds_toArray, List.set_cons_zero, List.set_cons_succ, i64_w, i32_w]
               rfl
              refine take_ (i := 8) (N := some 85) (v := ?_) (a' := ?_) alEo1_8 rfl rfl (take_ofW HT_.out HW_.out (by kernel_rfl)) (fun _ _ _ h => h) (Or.inl ⟨by rfl, ?_⟩) hHeld ?_ ?_
              rotate_left
              ·rintro w' ⟨s0, s1⟩
               go_simp
               with_reducible rfl
              rotate_left
              ·simp only [Act.put, List.setIfInBounds_toArray, List.set_cons_zero, List.set_cons_succ, i64_w, i32_w]
               rfl
              refine one_ (i := 3) (N := some 80) alEo1_9 rfl rfl (one_of HT_.out (by kernel_rfl)) (by decide) (fun K hK => ?_)
              refine goes_ Try.func19 (by kernel_rfl) rfl #[.int .i64 (rd t101 0)] (by rfl) rfl rfl (by (try simp only [List.map_toArray, List.map_cons, List.map_nil]); first | done | rfl | (simp only [List.length_drop, List.length_take]; rfl)) ?_
              with_reducible refine (accountinglaw08_size.calls (rd t101 0) t119 _ A38.out).mono ?_
              rintro e w' ⟨rfl, ⟨nd, rfl⟩⟩
              refine ⟨_, rfl, ?_⟩
              refine hK.out _ _ ⟨hHeld.1, hHeld.2⟩ (fun hHeld => ?_)
              clear hK K
              refine norm_ (a' := ?_) ?_ ?_
              rotate_left
              ·show Act.put _ (some 80) _ = _
               simp only [Act.put, List.setIfInBounds_toArray, List.set_cons_zero, List.set_cons_succ, i64_w, i32_w]
               rfl
              refine one_ (i := 9) (N := some 86) alEo1_10 rfl rfl (one_of HT_.out (by kernel_rfl)) (by decide) (fun K hK => ?_)
              refine goes_ Try.func19 (by kernel_rfl) rfl #[.int .i64 (rd t101 (ji39))] (by rfl) rfl rfl (by (try simp only [List.map_toArray, List.map_cons, List.map_nil]); first | done | (simp only [hji39]; rfl) | rfl | (simp only [List.length_drop, List.length_take]; rfl)) ?_
              with_reducible refine (accountinglaw08_size.calls (rd t101 (ji39)) t121 _ A42.out).mono ?_
              rintro e w' ⟨rfl, ⟨nd, rfl⟩⟩
              refine ⟨_, rfl, ?_⟩
              refine hK.out _ _ ⟨hHeld.1, hHeld.2⟩ (fun hHeld => ?_)
              clear hK K
              refine norm_ (a' := ?_) ?_ ?_
              rotate_left
              ·show Act.put _ (some 86) _ = _
               simp only [Act.put, List.setIfInBounds_toArray, List.set_cons_zero, List.set_cons_succ, i64_w, i32_w]
               rfl
              refine pure_ (i := 10) (N := some 87) (v := ?_) (a' := ?_) alEo1_11 rfl rfl (any_of HT_.out (by kernel_rfl)) (fun _ _ _ h => h) (Or.inl ⟨by rfl, ?_⟩) ?_ ?_
              rotate_left
              ·intro w'
               go_simp
               with_reducible rfl
              rotate_left
              ·simp only [Act.put, List.setIfInBounds_toArray, List.set_cons_zero, List.set_cons_succ, i64_w, i32_w]
               rfl
              refine pure_ (i := 11) (N := some 88) (v := ?_) (a' := ?_) alEo1_12 rfl rfl (any_of HT_.out (by kernel_rfl)) (fun _ _ _ h => h) (Or.inl ⟨by rfl, ?_⟩) ?_ ?_
              rotate_left
              ·intro w'
               go_simp
               with_reducible rfl
              rotate_left
              ·simp only [Act.put, List.setIfInBounds_toArray, List.set_cons_zero, List.set_cons_succ, i64_w, i32_w]
               rfl
              refine pure_ (i := 12) (N := some 89) (v := ?_) (a' := ?_) alEo1_13 rfl rfl (any_of HT_.out (by kernel_rfl)) (fun _ _ _ h => h) (Or.inl ⟨by rfl, ?_⟩) ?_ ?_
              rotate_left
              ·intro w'
               go_simp
               with_reducible rfl
              rotate_left
              ·simp only [Act.put, List.setIfInBounds_toArray, List.set_cons_zero, List.set_cons_succ, i64_w, i32_w]
               rfl
              refine pure_ (i := 13) (N := some 90) (v := undef) (a' := ?_) alEo1_14 rfl rfl (any_of HT_.out (by kernel_rfl)) (fun _ _ _ h => h) (Or.inr ⟨by rfl, rfl⟩) ?_ ?_
              rotate_left
              ·simp only [Act.put, List.setIfInBounds_toArray, List.set_cons_zero, List.set_cons_succ, i64_w, i32_w]
               rfl
              refine pure_ (i := 14) (N := some 91) (v := undef) (a' := ?_) alEo1_15 rfl rfl (any_of HT_.out (by kernel_rfl)) (fun _ _ _ h => h) (Or.inr ⟨by rfl, rfl⟩) ?_ ?_
              rotate_left
              ·simp only [Act.put, List.setIfInBounds_toArray, List.set_cons_zero, List.set_cons_succ, i64_w, i32_w]
               rfl
              refine pure_ (i := 15) (N := some 92) (v := undef) (a' := ?_) #[true, true, true, true, true, true, true, true, true, true, true, true, true, true, true, true, false, false, false, false, false, false, false, false, false, false, false, false, false, false] rfl rfl (any_of HT_.out (by kernel_rfl)) (fun _ _ _ h => h) (Or.inr ⟨by rfl, rfl⟩) ?_ ?_
              rotate_left
              ·simp only [Act.put, List.setIfInBounds_toArray, List.set_cons_zero, List.set_cons_succ, i64_w, i32_w]
               rfl
              refine pure_ (i := 16) (N := some 93) (v := undef) (a' := ?_) #[true, true, true, true, true, true, true, true, true, true, true, true, true, true, true, true, true, false, false, false, false, false, false, false, false, false, false, false, false, false] rfl rfl (any_of HT_.out (by kernel_rfl)) (fun _ _ _ h => h) (Or.inr ⟨by rfl, rfl⟩) ?_ ?_
              rotate_left
              ·simp only [Act.put, List.setIfInBounds_toArray, List.set_cons_zero, List.set_cons_succ, i64_w, i32_w]
               rfl
              refine pure_ (i := 17) (N := some 94) (v := undef) (a' := ?_) #[true, true, true, true, true, true, true, true, true, true, true, true, true, true, true, true, true, true, false, false, false, false, false, false, false, false, false, false, false, false] rfl rfl (any_of HT_.out (by kernel_rfl)) (fun _ _ _ h => h) (Or.inr ⟨by rfl, rfl⟩) ?_ ?_
              rotate_left
              ·simp only [Act.put, List.setIfInBounds_toArray, List.set_cons_zero, List.set_cons_succ, i64_w, i32_w]
               rfl
              refine pure_ (i := 18) (N := some 95) (v := undef) (a' := ?_) #[true, true, true, true, true, true, true, true, true, true, true, true, true, true, true, true, true, true, true, false, false, false, false, false, false, false, false, false, false, false] rfl rfl (any_of HT_.out (by kernel_rfl)) (fun _ _ _ h => h) (Or.inr ⟨by rfl, rfl⟩) ?_ ?_
              rotate_left
              ·simp only [Act.put, List.setIfInBounds_toArray, List.set_cons_zero, List.set_cons_succ, i64_w, i32_w]
               rfl
              refine pure_ (i := 19) (N := some 96) (v := undef) (a' := ?_) #[true, true, true, true, true, true, true, true, true, true, true, true, true, true, true, true, true, true, true, true, false, false, false, false, false, false, false, false, false, false] rfl rfl (any_of HT_.out (by kernel_rfl)) (fun _ _ _ h => h) (Or.inr ⟨by rfl, rfl⟩) ?_ ?_
              rotate_left
              ·simp only [Act.put, List.setIfInBounds_toArray, List.set_cons_zero, List.set_cons_succ, i64_w, i32_w]
               rfl
              refine pure_ (i := 20) (N := some 97) (v := undef) (a' := ?_) #[true, true, true, true, true, true, true, true, true, true, true, true, true, true, true, true, true, true, true, true, true, false, false, false, false, false, false, false, false, false] rfl rfl (any_of HT_.out (by kernel_rfl)) (fun _ _ _ h => h) (Or.inr ⟨by rfl, rfl⟩) ?_ ?_
              rotate_left
              ·simp only [Act.put, List.setIfInBounds_toArray, List.set_cons_zero, List.set_cons_succ, i64_w, i32_w]
               rfl
              refine pure_ (i := 21) (N := some 98) (v := undef) (a' := ?_) alEo1_22 rfl rfl (any_of HT_.out (by kernel_rfl)) (fun _ _ _ h => h) (Or.inr ⟨by rfl, rfl⟩) ?_ ?_
              rotate_left
              ·simp only [Act.put, List.setIfInBounds_toArray, List.set_cons_zero, List.set_cons_succ, i64_w, i32_w]
               rfl
              refine pure_ (i := 22) (N := some 99) (v := undef) (a' := ?_) alEo1_23 rfl rfl (any_of HT_.out (by kernel_rfl)) (fun _ _ _ h => h) (Or.inr ⟨by rfl, rfl⟩) ?_ ?_
              rotate_left
              ·simp only [Act.put, List.setIfInBounds_toArray, List.set_cons_zero, List.set_cons_succ, i64_w, i32_w]
               rfl
              refine pure_ (i := 23) (N := some 100) (v := undef) (a' := ?_) alEo1_24 rfl rfl (any_of HT_.out (by kernel_rfl)) (fun _ _ _ h => h) (Or.inr ⟨by rfl, rfl⟩) ?_ ?_
              rotate_left
              ·simp only [Act.put, List.setIfInBounds_toArray, List.set_cons_zero, List.set_cons_succ, i64_w, i32_w]
               rfl
              refine pure_ (i := 24) (N := some 101) (v := undef) (a' := ?_) alEo1_25 rfl rfl (any_of HT_.out (by kernel_rfl)) (fun _ _ _ h => h) (Or.inr ⟨by rfl, rfl⟩) ?_ ?_
              rotate_left
              ·simp only [Act.put, List.setIfInBounds_toArray, List.set_cons_zero, List.set_cons_succ, i64_w, i32_w]
               rfl
              refine pure_ (i := 25) (N := some 102) (v := ?_) (a' := ?_) alEo1_26 rfl rfl (any_of HT_.out (by kernel_rfl)) (fun _ _ _ h => h) (Or.inl ⟨by rfl, ?_⟩) ?_ ?_
              rotate_left
              ·intro w'
               go_simp
               with_reducible rfl
              rotate_left
              ·simp only [Act.put, List.setIfInBounds_toArray, List.set_cons_zero, List.set_cons_succ, i64_w, i32_w]
               rfl
              refine pure_ (i := 26) (N := some 103) (v := ?_) (a' := ?_) alEo1_27 rfl rfl (any_of HT_.out (by kernel_rfl)) (fun _ _ _ h => h) (Or.inl ⟨by rfl, ?_⟩) ?_ ?_
              rotate_left
              ·intro w'
               go_simp
               with_reducible rfl
              rotate_left
              ·simp only [Act.put, List.setIfInBounds_toArray, List.set_cons_zero, List.set_cons_succ, i64_w, i32_w]
               rfl
              refine pure_ (i := 27) (N := some 104) (v := undef) (a' := ?_) alEo1_28 rfl rfl (any_of HT_.out (by kernel_rfl)) (fun _ _ _ h => h) (Or.inr ⟨by rfl, rfl⟩) ?_ ?_
              rotate_left
              ·simp only [Act.put, List.setIfInBounds_toArray, List.set_cons_zero, List.set_cons_succ, i64_w, i32_w]
               rfl
              refine pure_ (i := 28) (N := some 105) (v := ?_) (a' := ?_) alEo1_29 rfl rfl (any_of HT_.out (by kernel_rfl)) (fun _ _ _ h => h) (Or.inl ⟨by rfl, ?_⟩) ?_ ?_
              rotate_left
              ·intro w'
               go_simp
               with_reducible rfl
              rotate_left
              ·simp only [Act.put, List.setIfInBounds_toArray, List.set_cons_zero, List.set_cons_succ, i64_w, i32_w]
               rfl
              refine pure_ (i := 29) (N := some 6) (v := ?_) (a' := ?_) alEo1_30 rfl rfl (any_of HT_.out (by kernel_rfl)) (fun _ _ _ h => h) (Or.inl ⟨by rfl, ?_⟩) ?_ ?_
              rotate_left
              ·intro w'
               go_simp
               with_reducible rfl
              rotate_left
              ·simp only [Act.put, List.setIfInBounds_toArray, List.set_cons_zero, List.set_cons_succ, i64_w, i32_w]
               rfl
              refine done_ (done_of HT_.out (by kernel_rfl)) ?_
              try go_wp2
              go_ret
              exact ⟨by first | rfl | (simp [errW_none, errW_some] <;> rfl) | (simp only [← hji39]; first | rfl | (simp [errW_none, errW_some] <;> rfl)) | (simp [*, errW_none, errW_some] <;> rfl), by repeat (first | (with_reducible first | exact HB.out | apply below_alloc | apply pw_below_drewN | apply below_drew1) | exact HB.out)⟩
            ·rw [if_neg c41] at H
             exact absurd H (by simp)
           ·rw [if_neg c40] at H
            exact absurd H (by simp)
          ·rw [if_neg c37] at H
           exact absurd H (by simp)

/-- THE ONE PURE STATEMENT of accountinglaw08_SplitEvenOnes: yours. -/
def accountinglaw08_SplitEvenOnes.Pure : Prop := ∀ (a0 : Int) (a1 : Int) (a2 : Int), (Lit.int .i64 a0).wf = true → (Lit.int .i64 a1).wf = true → (Lit.int .i64 a2).wf = true → ∃ k, accountinglaw08_SplitEvenOnes.f k a0 a1 a2 = some true
theorem accountinglaw08_SplitEvenOnes.walk (P : accountinglaw08_SplitEvenOnes.Pure) (a0 : Int) (a1 : Int) (a2 : Int) (w : World) (w0 : (Lit.int .i64 a0).wf = true) (w1 : (Lit.int .i64 a1).wf = true) (w2 : (Lit.int .i64 a2).wf = true) :
    Calls Try.prog 9 #[.int .i64 a0, .int .i64 a1, .int .i64 a2] w fun e w' => e = .returned (.bool true) ∧ Below w.heap.size w w' := by
 obtain ⟨k, h⟩ := P a0 a1 a2 w0 w1 w2
 refine (accountinglaw08_SplitEvenOnes.calls k a0 a1 a2 true w h).mono ?_
 rintro e w' ⟨rfl, hd⟩
 exact ⟨rfl, hd⟩

end Go.Proofs.Ytikglhfeookhaaa.M
end
section
/- The shares, place by place: which are one more, how they are ordered, what multiplying the weights does. -/
namespace Go.Proofs.Ytikglhfeookhaaa.M
open Go.RowKit Go.Proofs.YtikglhfeookhaaaW.PrintWords Dv
set_option linter.unusedVariables false
theorem rd_map (f : Int → Int) (l : List Int) (i : Int) (h0 : 0 ≤ i) (h1 : i < l.length) : rd (l.map f) i = f (rd l i) := by
  unfold rd
  rw [List.getD_eq_getElem?_getD, List.getD_eq_getElem?_getD, List.getElem?_map, List.getElem?_eq_getElem (show i.toNat < l.length by omega)]
  rfl
theorem Fit.nodup {s : Int} {l : List Int} (h : Fit s l) : ((M.rk (rs s l.sum l)).take (lf s l.sum l).toNat).Nodup := by
  have p : (M.rk (rs s l.sum l)).Nodup := List.Pairwise.imp (S := fun x y => x ≠ y) (fun {x y} q e => (rOrd.tot (rs s l.sum l)).irr x (by rw [← e] at q; exact q)) h.rk.2
  exact p.sublist (List.take_sublist _ _)
/-- Is the part at this place one more? -/
def sel (s : Int) (l : List Int) (i : Int) : Prop := i ∈ (rk (rs s l.sum l)).take (lf s l.sum l).toNat
theorem rd_pos {s : Int} {l : List Int} (h : Fit s l) (i : Int) (h0 : 0 ≤ i) (h1 : i < l.length) : (sel s l i → rd (pos s l) i = s * rd l i / l.sum + 1) ∧ (¬ sel s l i → rd (pos s l) i = s * rd l i / l.sum) := by
  have e : rd (pos s l) i = rd (qs s l.sum l) i + if i ∈ (rk (rs s l.sum l)).take (lf s l.sum l).toNat then 1 else 0 := rd_inc _ _ i h.nodup h.take h0
  have e2 : rd (qs s l.sum l) i = s * rd l i / l.sum := rd_map _ l i h0 h1
  rw [e, e2]
  unfold sel
  refine ⟨fun k => ?_, fun k => ?_⟩
  · rw [if_pos k]
  · rw [if_neg k]; omega
theorem sel_up {s : Int} {l : List Int} (h : Fit s l) {i k : Int} (h0 : 0 ≤ i) (h1 : i < l.length) (o : rOrd (rs s l.sum l) i k) (hk : sel s l k) : sel s l i := by
  have hi : i ∈ rk (rs s l.sum l) := h.rk.1.mem_iff.2 ((mem_idx _ _).2 ⟨h0, h1⟩)
  have he := List.take_append_drop (lf s l.sum l).toNat (rk (rs s l.sum l))
  have hp := h.rk.2
  rw [← he] at hi hp
  rcases List.mem_append.1 hi with q | q
  · exact q
  · have := (List.pairwise_append.1 hp).2.2 k hk i q
    exact absurd o ((rOrd.tot _).asym this)
theorem perm_sum {l m : List Int} (h : l.Perm m) : l.sum = m.sum := by
  induction h with
  | nil => rfl
  | cons x _ ih => simp only [List.sum_cons, ih]
  | swap x y l => simp only [List.sum_cons]; omega
  | trans _ _ a b => rw [a, b]
theorem map_rd_idx : ∀ r : List Int, (idx r.length).map (rd r) = r := by
  intro r
  apply List.ext_getElem
  · simp [idx_length]
  · intro i h1 h2
    simp [idx, rd, List.getElem?_eq_getElem h2]
theorem sel_rest {s : Int} {l : List Int} (h : Fit s l) {i : Int} (hs : sel s l i) : 0 < rd (rs s l.sum l) i := by
  have hb := rs_bounds s l.sum h.t0 l
  have lb := lf_bounds s l h.t0
  have hl : (rk (rs s l.sum l)).length = l.length := by rw [h.rk.1.length_eq, idx_length]
  have hi := h.take i hs
  have hql : (qs s l.sum l).length = (rs s l.sum l).length := by simp [qs, rs]
  rw [hql] at hi
  have h0 := hb _ (rd_mem' _ i hi.1 hi.2)
  rcases Int.lt_or_eq_of_le h0.1 with z | hz
  · exact z
  exfalso
  have he := List.take_append_drop (lf s l.sum l).toNat (rk (rs s l.sum l))
  have hp := h.rk.2
  rw [← he] at hp
  have hd : ∀ j ∈ (rk (rs s l.sum l)).drop (lf s l.sum l).toNat, rd (rs s l.sum l) j = 0 := fun j hj => by
    have o := (List.pairwise_append.1 hp).2.2 i hs j hj
    have hjm := h.rk.1.mem_iff.1 (List.mem_of_mem_drop hj)
    rw [mem_idx] at hjm
    have hj0 := (hb _ (rd_mem' (rs s l.sum l) j hjm.1 (by simp [rs]; omega))).1
    unfold rOrd at o
    omega
  have zero : ∀ D : List Int, (∀ j ∈ D, rd (rs s l.sum l) j = 0) → (D.map (rd (rs s l.sum l))).sum = 0 := by
    intro D
    induction D with
    | nil => intro _; rfl
    | cons x D ih => intro hD; simp only [List.map_cons, List.sum_cons, hD x (by simp), ih (fun j hj => hD j (by simp [hj]))]; rfl
  have tot : ((rk (rs s l.sum l)).map (rd (rs s l.sum l))).sum = (rs s l.sum l).sum := by
    have e1 := perm_sum (h.rk.1.map (rd (rs s l.sum l)))
    rw [e1]
    have e2 : l.length = (rs s l.sum l).length := by simp [rs]
    rw [e2, map_rd_idx]
  rw [← he, List.map_append, List.sum_append, zero _ hd, Int.add_zero] at tot
  obtain ⟨T', hT⟩ : ∃ T', ((rk (rs s l.sum l)).take (lf s l.sum l).toNat).Perm (i :: T') := ⟨_, List.perm_cons_erase hs⟩
  have hlen : ((rk (rs s l.sum l)).take (lf s l.sum l).toNat).length = T'.length + 1 := by rw [hT.length_eq]; rfl
  rw [List.length_take, hl] at hlen
  have e3 := perm_sum (hT.map (rd (rs s l.sum l)))
  rw [List.map_cons, List.sum_cons, ← hz, Int.zero_add] at e3
  have b := sum_rs l.sum (T'.map (rd (rs s l.sum l))) (fun x hx => by
    obtain ⟨j, hj, rfl⟩ := List.mem_map.1 hx
    have := h.take j (hT.mem_iff.2 (by simp [hj]))
    rw [hql] at this
    exact hb _ (rd_mem' _ j this.1 this.2))
  rw [List.length_map] at b
  have e4 : l.sum * lf s l.sum l ≤ l.sum * T'.length := by omega
  have := Int.le_of_mul_le_mul_left e4 h.t0
  omega
/-- The order of the shares. -/
theorem pos_order {s : Int} {l : List Int} (h : Fit s l) {i k : Int} (i0 : 0 ≤ i) (i1 : i < l.length) (k0 : 0 ≤ k) (k1 : k < l.length) (o : rd l i > rd l k ∨ (rd l i = rd l k ∧ i < k)) : rd (pos s l) k ≤ rd (pos s l) i := by
  have pi := rd_pos h i i0 i1
  have pk := rd_pos h k k0 k1
  have ri : rd (rs s l.sum l) i = s * rd l i % l.sum := rd_map _ l i i0 i1
  have rk' : rd (rs s l.sum l) k = s * rd l k % l.sum := rd_map _ l k k0 k1
  have mono : s * rd l k ≤ s * rd l i := Int.mul_le_mul_of_nonneg_left (by omega) h.s0
  have qm := Int.ediv_le_ediv h.t0 mono
  by_cases hq : s * rd l k / l.sum = s * rd l i / l.sum
  · by_cases hk : sel s l k
    · have oo : rOrd (rs s l.sum l) i k := by
        unfold rOrd
        rw [ri, rk']
        have d1 := Int.emod_add_mul_ediv (s * rd l i) l.sum
        have d2 := Int.emod_add_mul_ediv (s * rd l k) l.sum
        rw [hq] at d2
        by_cases he : s * rd l k = s * rd l i
        · rcases o with o | o
          · have : s * (rd l i - rd l k) = 0 := by rw [Int.mul_sub]; omega
            rcases Int.mul_eq_zero.1 this with z | z
            · exfalso
              subst z
              have lz : lf 0 l.sum l = 0 := by
                have := (lf_bounds 0 l h.t0).2.2
                have e : (rs 0 l.sum l).sum = 0 := by
                  have := sum_qr 0 l.sum h.t0 l
                  have hr := sum_rs l.sum (rs 0 l.sum l) (rs_bounds 0 l.sum h.t0 l)
                  have hq : 0 ≤ (qs 0 l.sum l).sum := sum_nonneg _ (fun x hx => (qs_bounds (Int.le_refl 0) (by omega) h.t0 l h.w x hx).1)
                  have : 0 ≤ l.sum * (qs 0 l.sum l).sum := Int.mul_nonneg (by have := h.t0; omega) hq
                  omega
                rw [e] at this
                rcases Int.mul_eq_zero.1 this with z | z
                · have := h.t0; omega
                · exact z
              unfold sel at hk
              rw [lz] at hk
              simp at hk
            · omega
          · right; rw [he]; exact ⟨rfl, o.2⟩
        · left; omega
      rw [pk.1 hk, pi.1 (sel_up h i0 i1 oo hk)]; omega
    · rw [pk.2 hk]
      by_cases hi : sel s l i
      · rw [pi.1 hi]; omega
      · rw [pi.2 hi]; omega
  · have a1 : rd (pos s l) k ≤ s * rd l k / l.sum + 1 := by
      by_cases hk : sel s l k
      · rw [pk.1 hk]; omega
      · rw [pk.2 hk]; omega
    have a2 : s * rd l i / l.sum ≤ rd (pos s l) i := by
      by_cases hi : sel s l i
      · rw [pi.1 hi]; omega
      · rw [pi.2 hi]; omega
    omega
theorem size_shr {a : Int} {l : List Int} (h : shErr a l = 0) (i : Int) (h0 : 0 ≤ i) (h1 : i < l.length) : accountinglaw08_size.f (rd (shr a l) i) = some (rd (pos (if a < 0 then -a else a) l) i) := by
  have F := shErr_le h
  unfold shr accountinglaw08_size.f
  have hb := pos_bounds F _ (rd_mem' (pos (if a < 0 then -a else a) l) i h0 (by rw [pos_length]; exact h1))
  by_cases c : a < 0
  · simp only [if_pos c] at hb ⊢
    rw [rd_map _ _ i h0 (by rw [pos_length]; exact h1)]
    by_cases z : -rd (pos (-a) l) i < 0
    · rw [if_pos z, w64 (by omega) (by omega), Int.neg_neg]
    · rw [if_neg z]; congr 1; omega
  · simp only [if_neg c] at hb ⊢
    rw [if_neg (by omega)]
/-! All weights multiplied. -/
theorem sum_mul (m : Int) : ∀ l : List Int, (l.map (· * m)).sum = l.sum * m
  | [] => by simp
  | x :: l => by simp only [List.map_cons, List.sum_cons, sum_mul m l, Int.add_mul]
theorem qs_mul (s t m : Int) (hm : 0 < m) (l : List Int) : qs s (t * m) (l.map (· * m)) = qs s t l := by
  unfold qs
  rw [List.map_map]
  refine List.map_congr_left (fun w _ => ?_)
  show s * (w * m) / (t * m) = s * w / t
  rw [← Int.mul_assoc]
  exact Int.mul_ediv_mul_of_pos_left _ _ hm
theorem rs_mul (s t m : Int) (hm : 0 < m) (l : List Int) : rs s (t * m) (l.map (· * m)) = (rs s t l).map (· * m) := by
  unfold rs
  rw [List.map_map, List.map_map]
  refine List.map_congr_left (fun w _ => ?_)
  show s * (w * m) % (t * m) = s * w % t * m
  rw [← Int.mul_assoc, Int.mul_comm (s * w) m, Int.mul_comm t m, Int.mul_emod_mul_of_pos _ _ hm, Int.mul_comm]
theorem rd_mul (m : Int) (r : List Int) (i : Int) : rd (r.map (· * m)) i = rd r i * m := by
  unfold rd
  rw [List.getD_eq_getElem?_getD, List.getD_eq_getElem?_getD, List.getElem?_map]
  cases r[i.toNat]? <;> simp
theorem rk_mul (m : Int) (hm : 0 < m) (r : List Int) (h : r.length < 1000) : rk (r.map (· * m)) = rk r := by
  obtain ⟨a, b⟩ := rk_spec r h
  refine (rk_uniq (r.map (· * m)) (rk r) (by simpa using h) (by simpa using a) (b.imp ?_)).symm
  intro x y o
  unfold rOrd at *
  rw [rd_mul, rd_mul]
  rcases o with o | o
  · left; exact Int.mul_lt_mul_of_pos_right o hm
  · right; rw [o.1]; exact ⟨rfl, o.2⟩
theorem pos_mul (s m : Int) (hm : 0 < m) (l : List Int) (hl : l.length < 1000) : pos s (l.map (· * m)) = pos s l := by
  unfold pos lf
  rw [sum_mul, qs_mul s _ m hm, rs_mul s _ m hm, rk_mul m hm _ (by simpa [rs] using hl)]
theorem shr_mul (a m : Int) (hm : 0 < m) (l : List Int) (hl : l.length < 1000) : shr a (l.map (· * m)) = shr a l := by
  unfold shr
  rw [pos_mul _ m hm l hl, pos_mul _ m hm l hl]
theorem shErr_mul (a m : Int) (hm : 0 < m) (l : List Int) (hw : ∀ x ∈ l, 0 ≤ x) (hb : l.sum * m ≤ 1000000000000000) : shErr a (l.map (· * m)) = shErr a l := by
  have h0 := sum_nonneg l hw
  have h1 : l.sum ≤ 1000000000000000 := by
    have : l.sum * 1 ≤ l.sum * m := Int.mul_le_mul_of_nonneg_left (by omega) h0
    omega
  have n1 : ¬ ∃ x ∈ l, x < 0 := by
    rintro ⟨x, hx, k⟩
    have := hw x hx
    omega
  have n2 : ¬ ∃ x ∈ l.map (· * m), x < 0 := by
    rintro ⟨x, hx, k⟩
    obtain ⟨w, hwm, rfl⟩ := List.mem_map.1 hx
    have := Int.mul_nonneg (hw w hwm) (Int.le_of_lt hm)
    have k' : w * m < 0 := k
    omega
  unfold shErr
  rw [List.length_map, if_neg n1, if_neg n2, sum_mul, if_neg (show ¬ l.sum * m > 1000000000000000 by omega), if_neg (show ¬ l.sum > 1000000000000000 by omega)]
  have z : (l.sum * m = 0) ↔ (l.sum = 0) := by
    rw [Int.mul_eq_zero]; omega
  by_cases c : l.sum = 0
  · rw [if_pos c, if_pos (z.2 c)]
  · rw [if_neg c, if_neg (fun k => c (z.1 k))]
end Go.Proofs.Ytikglhfeookhaaa.M
end
section
/- Even returns the shares for equal weights, in decreasing order of their sizes, at most one apart: the law holds for every amount, number and weight. -/

namespace Go.Proofs.Ytikglhfeookhaaa.M
open Go.RowKit Go.Proofs.YtikglhfeookhaaaW.PrintWords Dv
set_option linter.unusedVariables false
theorem even_close {s : Int} {l : List Int} (h : Fit s l) {i k : Int} (i0 : 0 ≤ i) (i1 : i < l.length) (k0 : 0 ≤ k) (k1 : k < l.length) (e : rd l i = rd l k) : rd (pos s l) i ≤ rd (pos s l) k + 1 := by
  have pi := rd_pos h i i0 i1
  have pk := rd_pos h k k0 k1
  rw [e] at pi
  by_cases hi : sel s l i <;> by_cases hk : sel s l k
  · rw [pi.1 hi, pk.1 hk]; omega
  · rw [pi.1 hi, pk.2 hk]; omega
  · rw [pi.2 hi, pk.1 hk]; omega
  · rw [pi.2 hi, pk.2 hk]; omega
theorem rd_replicate (n : Nat) (i : Int) (h0 : 0 ≤ i) (h1 : i < n) : rd (List.replicate n 1) i = 1 := by
  unfold rd
  rw [List.getD_eq_getElem?_getD, List.getElem?_replicate, if_pos (by omega)]; rfl
theorem ones_end {a : Int} {n : Nat} (h0 : 1 ≤ n) (h1 : n ≤ 200) (z : shErr a (List.replicate n 1) = 0) : Ev (fun k => accountinglaw08_SplitEvenOnes.j2 k n (shr a (List.replicate n 1)) false) true := by
  have F := shErr_le z
  have hl : (List.replicate n (1 : Int)).length = n := by simp
  have sl : ((shr a (List.replicate n 1)).length : Int) = n := by rw [shr_length, hl]
  refine Ev.succ ?_
  have e : wrap64 ((n : Int) - 1) = n - 1 := w64 (by omega) (by omega)
  have g0 : (0 : Int) < ((shr a (List.replicate n 1)).length : Int) := by omega
  have g1 : (0 : Int) ≤ (n : Int) - 1 := by omega
  have g2 : (n : Int) - 1 < ((shr a (List.replicate n 1)).length : Int) := by omega
  have s0 := size_shr z 0 (by omega) (by rw [hl]; omega)
  have s1 := size_shr z (n - 1) (by omega) (by rw [hl]; omega)
  have b0 := pos_bounds F _ (rd_mem' (pos (if a < 0 then -a else a) (List.replicate n 1)) 0 (by omega) (by rw [pos_length, hl]; omega))
  have b1 := pos_bounds F _ (rd_mem' (pos (if a < 0 then -a else a) (List.replicate n 1)) (n - 1) (by omega) (by rw [pos_length, hl]; omega))
  have r0 := rd_replicate n 0 (by omega) (by omega)
  have r1 := rd_replicate n (n - 1) (by omega) (by omega)
  have cl := even_close F (i := 0) (k := n - 1) (by omega) (by rw [hl]; omega) (by omega) (by rw [hl]; omega) (by rw [r0, r1])
  have od : rd (pos (if a < 0 then -a else a) (List.replicate n 1)) (n - 1) ≤ rd (pos (if a < 0 then -a else a) (List.replicate n 1)) 0 := by
    by_cases c : n = 1
    · subst c; simp
    · exact pos_order F (i := 0) (k := n - 1) (by omega) (by rw [hl]; omega) (by omega) (by rw [hl]; omega) (.inr ⟨by rw [r0, r1], by omega⟩)
  have e2 : wrap64 (rd (pos (if a < 0 then -a else a) (List.replicate n 1)) 0 - rd (pos (if a < 0 then -a else a) (List.replicate n 1)) (n - 1)) = rd (pos (if a < 0 then -a else a) (List.replicate n 1)) 0 - rd (pos (if a < 0 then -a else a) (List.replicate n 1)) (n - 1) := w64 (by omega) (by omega)
  have g3 : rd (pos (if a < 0 then -a else a) (List.replicate n 1)) 0 - rd (pos (if a < 0 then -a else a) (List.replicate n 1)) (n - 1) ≥ 0 := by omega
  have g4 : rd (pos (if a < 0 then -a else a) (List.replicate n 1)) 0 - rd (pos (if a < 0 then -a else a) (List.replicate n 1)) (n - 1) ≤ 1 := by omega
  simp only [accountinglaw08_SplitEvenOnes.j2, Bool.false_eq_true, if_false, e, if_pos g0, if_pos g1, if_pos g2, s0, s1, Option.bind_some, e2, if_pos g3, if_pos g4]
  exact Ev.bind accountinglaw08_lives.true (Ev.const _)
theorem ones_loop {a w : Int} {n : Nat} (h0 : 1 ≤ n) (h1 : n ≤ 200) (hw : 1 ≤ w) (hw2 : w ≤ 1000000) (z : shErr a (List.replicate n 1) = 0) : ∀ (d i : Nat), i + d = n → Ev (fun k => accountinglaw08_SplitEvenOnes.l0 k a n w (shr a (List.replicate n 1)) (List.replicate i w) i) true
  | 0, i, hi => by
    obtain rfl : i = n := by omega
    refine Ev.succ ?_
    have g : ¬ (i : Int) < i := by omega
    simp only [accountinglaw08_SplitEvenOnes.l0, if_neg g]
    have em : List.replicate i w = (List.replicate i (1 : Int)).map (· * w) := by simp
    have S := split_Shares.eq (a := a) (l := List.replicate i w) (by simp; omega) (fun x hx => by have := (List.mem_replicate.1 hx).2; omega)
    have hs : (List.replicate i (1 : Int)).sum = i := by
      have : ∀ n : Nat, (List.replicate n (1 : Int)).sum = n := fun n => by
        induction n with
        | zero => rfl
        | succ n ih => rw [List.replicate_succ, List.sum_cons, ih]; omega
      exact this i
    have hb : (i : Int) * w ≤ 200 * 1000000 := Int.mul_le_mul (by omega) hw2 (by omega) (by omega)
    rw [em, shErr_mul a w (by omega) _ (fun x hx => by have := (List.mem_replicate.1 hx).2; omega) (by rw [hs]; omega), shr_mul a w (by omega) _ (by simp; omega), z] at S
    rw [em]
    refine Ev.bind S ?_
    simp only [if_true]
    refine Ev.bind (accountingref08_Same.self _ (by simp [shr_length]; omega)) ?_
    have b : (((shr a (List.replicate i 1)).length : Int) != (i : Int)) = false := by rw [shr_length]; simp
    simp only [if_true, b]
    exact ones_end h0 h1 z
  | d + 1, i, hi => by
    refine Ev.succ ?_
    have g : (i : Int) < n := by omega
    have g2 : (List.replicate i w).length < 17592186044416 := by simp; omega
    have e : wrap64 ((i : Int) + 1) = ((i + 1 : Nat) : Int) := by rw [w64 (by omega) (by omega)]; omega
    have e2 : List.replicate i w ++ [w] = List.replicate (i + 1) w := by rw [List.replicate_succ']
    simp only [accountinglaw08_SplitEvenOnes.l0, if_pos g, if_pos g2, e, e2]
    exact ones_loop h0 h1 hw hw2 z d (i + 1) (by omega)
theorem pure_SplitEvenOnes : accountinglaw08_SplitEvenOnes.Pure := by
  intro a n w ha hn hw
  refine Ev.out (g := fun k => accountinglaw08_SplitEvenOnes.f k a n w) ?_
  have nz : (evn a n).2 ≠ 0 → (evn a n).1 = [] := by
    unfold evn
    intro h
    split
    · rfl
    · split
      · rfl
      · rename_i h1 h2
        rw [if_neg h1, if_neg h2] at h
        exact if_neg h
  have J : ∀ b, b = true → Ev (fun k => accountinglaw08_SplitEvenOnes.j0 k a n w (evn a n).1 (evn a n).2 b) true := by
    rintro b rfl
    refine Ev.succ ?_
    simp only [accountinglaw08_SplitEvenOnes.j0, if_true]
    by_cases c : (evn a n).2 = 0
    · simp only [if_pos c]; exact Ev.bind accountinglaw08_lives.true (Ev.const _)
    · simp only [if_neg c, nz c, List.length_nil]
      exact Ev.bind accountinglaw08_lives.true (Ev.const _)
  simp only [accountinglaw08_SplitEvenOnes.f]
  refine Ev.bind (split_Even.eq a n) ?_
  by_cases c1 : n < 1
  · simp only [if_pos c1]; exact J _ rfl
  by_cases c2 : n > 200
  · simp only [if_neg c1, if_pos c2]; exact J _ rfl
  by_cases c3 : w < 1
  · simp only [if_neg c1, if_neg c2, if_pos c3]; exact J _ rfl
  by_cases c4 : w > 1000000
  · simp only [if_neg c1, if_neg c2, if_neg c3, if_pos c4]; exact J _ rfl
  simp only [if_neg c1, if_neg c2, if_neg c3, if_neg c4]
  by_cases c5 : (evn a n).2 = 0
  · obtain ⟨N, rfl⟩ := Int.eq_ofNat_of_zero_le (show 0 ≤ n by omega)
    have ee : evn a (N : Int) = (if shErr a (List.replicate N 1) = 0 then shr a (List.replicate N 1) else [], shErr a (List.replicate N 1)) := by
      unfold evn
      rw [if_neg c1, if_neg c2]; rfl
    rw [ee] at c5
    have z : shErr a (List.replicate N 1) = 0 := c5
    have b : ((0 : Int) != 0) = false := by decide
    rw [ee, z]
    simp only [b, if_true]
    refine Ev.succ ?_
    simp only [accountinglaw08_SplitEvenOnes.j0, Bool.false_eq_true, if_false]
    have := ones_loop (w := w) (by omega) (by omega) (by omega) (by omega) z N 0 (by omega)
    simpa using this
  · exact J _ (by simpa using c5)
end Go.Proofs.Ytikglhfeookhaaa.M
namespace Go.Proofs.Ytikglhfeookhaaa.Pure
theorem SplitEvenOnes : M.accountinglaw08_SplitEvenOnes.Pure := M.pure_SplitEvenOnes
end Go.Proofs.Ytikglhfeookhaaa.Pure
end
section
-- Written by mprint.py (a program of this session) over the kit's print.
namespace Go.Proofs.Ytikglhfeookhaaa.splitEvenOnes
open Go.ChangeShapes Go.WideShapes Go.ChangeAt Go.RowKit
open Go.ChangeMaps (open_string shut_string)
set_option linter.unusedVariables false
theorem own : ownKnob Try.prog.godebug = none := by kernel_rfl
set_option maxRecDepth 100000 in
theorem lifted (os : Os) (started : os.Started) (H : Type) (enc : TypeId × Value → H) :
    ReturnsInHanded {} Try.checked os 9 .any (Rows.splitEvenOnesSpec.pre6 enc Try.prog Try.f9 Rows.splitEvenOnesRow.domain false) (Rows.splitEvenOnesSpec.post enc Try.prog Try.f9 false true false false) := by
  refine returnsInHanded_of_change_sized (C := Try.checked) own started (by kernel_rfl) Try.func9
    (ChangeSpec.witness6 (enc := enc) (C := Try.checked) false ⟨#[], #[.int .i64 0, .int .i64 0, .int .i64 0], []⟩ 8 (by kernel_rfl) (by kernel_rfl) (by kernel_rfl) (by kernel_rfl)) ?_
  intro W base args ds gs before hval0 hW hcnd hsz0 _
  have hsz : (DataW.weightsEach Try.prog (Try.f9.params.toList ++ Rows.splitEvenOnesSpec.plain.varTypes Try.prog) (ds ++ gs)).all (· ≤ reachBytes) = true := hsz0
  have hval : ∀ (j : Nat) t v, Try.f9.params[j]? = some t → args[j]? = some v → Value.okWide Try.prog W .any base t v := hval0
  have hW' := hW
  obtain ⟨p, q, hA0, hV, rfl, hfz, hnd⟩ := hW
  have hA : DataW.TrodAll enc Try.prog W 0 (fun _ => true) true Try.f9.params.toList args.toList ds p := hA0
  rw [Try.params9] at hA hval hsz
  obtain ⟨v0, vs0, d0, ds0, p0, q0, hargs, rfl, rfl, h0, r0⟩ := trodAll_cons hA
  obtain ⟨v1, vs1, d1, ds1, p1, q1, rfl, rfl, rfl, h1, r1⟩ := trodAll_cons r0
  obtain ⟨v2, vs2, d2, ds2, p2, q2, rfl, rfl, rfl, h2, r2⟩ := trodAll_cons r1
  obtain ⟨rfl, rfl, rfl⟩ := trodAll_nil r2
  obtain rfl : args = #[v0, v1, v2] := by cases args; simp_all
  obtain ⟨rfl, rfl⟩ := trodVars_none hV
  obtain ⟨a0, rfl, rfl, rfl, w0⟩ := open_int Try.underlying3 (hval 0 3 v0 rfl rfl) h0
  obtain ⟨a1, rfl, rfl, rfl, w1⟩ := open_int Try.underlying3 (hval 1 3 v1 rfl rfl) h1
  obtain ⟨a2, rfl, rfl, rfl, w2⟩ := open_int Try.underlying3 (hval 2 3 v2 rfl rfl) h2
  clear hA0 hval0 hsz0 hsz
  refine (M.accountinglaw08_SplitEvenOnes.walk Pure.SplitEvenOnes a0 a1 a2 W w0 w1 w2).mono fun e W' ⟨he, bel⟩ => ?_
  subst he
  exact ⟨_, rfl, _, _, _, [], _, [], hW', trodAll_mk1 (shut_bool Try.underlying4 _), (trodAll_cons_mk (shut_int Try.underlying3 w0) (trodAll_cons_mk (shut_int Try.underlying3 w1) (trodAll_cons_mk (shut_int Try.underlying3 w2) trodAll_mk0))), rfl, bel.frame _, fun h => by cases h⟩
theorem over : Rows.splitEvenOnesRow.holds Try.pinned (OpenSpec.ofChange Rows.splitEvenOnesSpec) :=
  OpenClaim.holds_of_wide 9 Try.f9 rfl rfl rfl rfl rfl rfl rfl ⟨rfl, rfl, rfl, rfl, rfl⟩ rfl rfl rfl rfl rfl (by kernel_rfl) Try.func9 (by kernel_rfl)
    (of_decide_eq_true (by kernel_rfl)) (by unfold Func.isWrapper; first | (rw [if_pos (by decide +kernel)]; kernel_rfl) | (rw [if_neg (by decide +kernel)]; exact ⟨rfl, rfl⟩))
    (fun os started H enc _ => lifted os started H enc)
theorem proved : Rows.SplitEvenOnesSaid := over
#print axioms proved
end Go.Proofs.Ytikglhfeookhaaa.splitEvenOnes
namespace Go.Proofs.Ytikglhfeookhaaa
/-- The row, under a short name, for the claim. -/
theorem splitEvenOnes_holds : Rows.SplitEvenOnesSaid := splitEvenOnes.proved
end Go.Proofs.Ytikglhfeookhaaa
end
