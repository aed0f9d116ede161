/- What the claims of this seat share, part 1 of 2: what the program's functions compute. -/
import Derived.Test.YtikglhfeookhaaaQB1
import Derived.Test.YtikglhfeookhaaaQB4
section
-- Written by mprint.py (a program of this session) over the kit's print.
namespace Go.Proofs.Ytikglhfeookhaaa.M
open Go.RowKit Go.Proofs.YtikglhfeookhaaaW.PrintWords Go.Proofs.YtikglhfeookhaaaW.PrintLast Go.Proofs.YtikglhfeookhaaaW.PrintMore
attribute [local go_sem] max2_int min2_int max_two min_two max_three min_three max_four min_four   -- for this text's walks alone
set_option linter.unusedVariables false
set_option linter.unusedSimpArgs false

/-! ### accountingref02_wide: function 36 -/
def accountingref02_wide.f (a0 : Int) (a1 : Int) : Option (Int × Int) := some (IntKind.u64.wrap ((IntKind.u64.wrap ((IntKind.u64.wrap ((IntKind.u64.wrap (Int.tdiv a0 4294967296)) * (IntKind.u64.wrap (Int.tdiv a1 4294967296)))) + (IntKind.u64.wrap (Int.tdiv (IntKind.u64.wrap ((IntKind.u64.wrap ((IntKind.u64.wrap (Int.tdiv a0 4294967296)) * (Int.tmod a1 4294967296))) + (IntKind.u64.wrap (Int.tdiv (IntKind.u64.wrap ((Int.tmod a0 4294967296) * (Int.tmod a1 4294967296))) 4294967296)))) 4294967296)))) + (IntKind.u64.wrap (Int.tdiv (IntKind.u64.wrap ((IntKind.u64.wrap ((Int.tmod a0 4294967296) * (IntKind.u64.wrap (Int.tdiv a1 4294967296)))) + (Int.tmod (IntKind.u64.wrap ((IntKind.u64.wrap ((IntKind.u64.wrap (Int.tdiv a0 4294967296)) * (Int.tmod a1 4294967296))) + (IntKind.u64.wrap (Int.tdiv (IntKind.u64.wrap ((Int.tmod a0 4294967296) * (Int.tmod a1 4294967296))) 4294967296)))) 4294967296))) 4294967296))), IntKind.u64.wrap ((IntKind.u64.wrap ((Int.tmod (IntKind.u64.wrap ((IntKind.u64.wrap ((Int.tmod a0 4294967296) * (IntKind.u64.wrap (Int.tdiv a1 4294967296)))) + (Int.tmod (IntKind.u64.wrap ((IntKind.u64.wrap ((IntKind.u64.wrap (Int.tdiv a0 4294967296)) * (Int.tmod a1 4294967296))) + (IntKind.u64.wrap (Int.tdiv (IntKind.u64.wrap ((Int.tmod a0 4294967296) * (Int.tmod a1 4294967296))) 4294967296)))) 4294967296))) 4294967296) * 4294967296)) + (Int.tmod (IntKind.u64.wrap ((Int.tmod a0 4294967296) * (Int.tmod a1 4294967296))) 4294967296)))
set_option maxHeartbeats 8000000 in
set_option maxRecDepth 100000 in
theorem accountingref02_wide.calls (a0 : Int) (a1 : Int) (r1 : Int) (r2 : Int) (w : World) (h : accountingref02_wide.f a0 a1 = some (r1, r2)) :
    Calls Try.prog 36 #[.int .u64 a0, .int .u64 a1] w fun e w' => e = .returned (.tuple #[.int .u64 r1, .int .u64 r2]) ∧ Drawn0 w w' := by
 have H : (some (IntKind.u64.wrap ((IntKind.u64.wrap ((IntKind.u64.wrap ((IntKind.u64.wrap (Int.tdiv a0 4294967296)) * (IntKind.u64.wrap (Int.tdiv a1 4294967296)))) + (IntKind.u64.wrap (Int.tdiv (IntKind.u64.wrap ((IntKind.u64.wrap ((IntKind.u64.wrap (Int.tdiv a0 4294967296)) * (Int.tmod a1 4294967296))) + (IntKind.u64.wrap (Int.tdiv (IntKind.u64.wrap ((Int.tmod a0 4294967296) * (Int.tmod a1 4294967296))) 4294967296)))) 4294967296)))) + (IntKind.u64.wrap (Int.tdiv (IntKind.u64.wrap ((IntKind.u64.wrap ((Int.tmod a0 4294967296) * (IntKind.u64.wrap (Int.tdiv a1 4294967296)))) + (Int.tmod (IntKind.u64.wrap ((IntKind.u64.wrap ((IntKind.u64.wrap (Int.tdiv a0 4294967296)) * (Int.tmod a1 4294967296))) + (IntKind.u64.wrap (Int.tdiv (IntKind.u64.wrap ((Int.tmod a0 4294967296) * (Int.tmod a1 4294967296))) 4294967296)))) 4294967296))) 4294967296))), IntKind.u64.wrap ((IntKind.u64.wrap ((Int.tmod (IntKind.u64.wrap ((IntKind.u64.wrap ((Int.tmod a0 4294967296) * (IntKind.u64.wrap (Int.tdiv a1 4294967296)))) + (Int.tmod (IntKind.u64.wrap ((IntKind.u64.wrap ((IntKind.u64.wrap (Int.tdiv a0 4294967296)) * (Int.tmod a1 4294967296))) + (IntKind.u64.wrap (Int.tdiv (IntKind.u64.wrap ((Int.tmod a0 4294967296) * (Int.tmod a1 4294967296))) 4294967296)))) 4294967296))) 4294967296) * 4294967296)) + (Int.tmod (IntKind.u64.wrap ((Int.tmod a0 4294967296) * (Int.tmod a1 4294967296))) 4294967296)))) = some (r1, r2) := h
 clear h
 simp only [Option.some.injEq, Prod.mk.injEq] at H
 obtain ⟨rfl, rfl⟩ := H
 go_enter Try.func36, Try.ntmps36
 go_wp2
 go_ret2
 exact ⟨by first | rfl | (simp; done) | (simp [*]; done), by repeat (first | exact Drawn0.refl _ | apply Drawn0.step)⟩

end Go.Proofs.Ytikglhfeookhaaa.M
end
section
-- Written by mprint.py (a program of this session) over the kit's print.
namespace Go.Proofs.Ytikglhfeookhaaa.M
open Go.RowKit Go.Proofs.YtikglhfeookhaaaW.PrintWords Go.Proofs.YtikglhfeookhaaaW.PrintLast Go.Proofs.YtikglhfeookhaaaW.PrintMore
attribute [local go_sem] max2_int min2_int max_two min_two max_three min_three max_four min_four   -- for this text's walks alone
set_option linter.unusedVariables false
set_option linter.unusedSimpArgs false

/-! ### accountingref02_mag: function 37 -/
def accountingref02_mag.f (a0 : Int) : Option (Int) := if a0 < 0 then (some (IntKind.u64.wrap ((IntKind.u64.wrap (wrap64 (-(wrap64 (a0 + 1))))) + 1))) else (some (IntKind.u64.wrap (a0)))
set_option maxHeartbeats 8000000 in
set_option maxRecDepth 100000 in
theorem accountingref02_mag.calls (a0 : Int) (r : Int) (w : World) (h : accountingref02_mag.f a0 = some r) :
    Calls Try.prog 37 #[.int .i64 a0] w fun e w' => e = .returned (.int .u64 r) ∧ Drawn0 w w' := by
 have H : (if a0 < 0 then (some (IntKind.u64.wrap ((IntKind.u64.wrap (wrap64 (-(wrap64 (a0 + 1))))) + 1))) else (some (IntKind.u64.wrap (a0)))) = some r := h
 clear h
 by_cases c2 : a0 < 0
 ·rw [if_pos c2] at H
  have c2b0 : decide (a0 < 0) = true := decide_eq_true c2
  clear c2
  obtain rfl := Option.some.inj H
  go_enter Try.func37, Try.ntmps37
  go_wp2
  go_ret
  exact ⟨by first | rfl | (simp; done) | (simp [*]; done), by repeat (first | exact Drawn0.refl _ | apply Drawn0.step)⟩
 ·rw [if_neg c2] at H
  have c2b0 : decide (a0 < 0) = false := decide_eq_false c2
  clear c2
  obtain rfl := Option.some.inj H
  go_enter Try.func37, Try.ntmps37
  go_wp2
  go_ret
  exact ⟨by first | rfl | (simp; done) | (simp [*]; done), by repeat (first | exact Drawn0.refl _ | apply Drawn0.step)⟩

end Go.Proofs.Ytikglhfeookhaaa.M
end
section
-- Written by mprint.py (a program of this session) over the kit's print.
namespace Go.Proofs.Ytikglhfeookhaaa.M
open Go.RowKit Go.Proofs.YtikglhfeookhaaaW.PrintWords Go.Proofs.YtikglhfeookhaaaW.PrintLast Go.Proofs.YtikglhfeookhaaaW.PrintMore
attribute [local go_sem] max2_int min2_int max_two min_two max_three min_three max_four min_four   -- for this text's walks alone
set_option linter.unusedVariables false
set_option linter.unusedSimpArgs false

/-! ### accountingref02_divide: function 38 -/
def accountingref02_divide.l0 : Nat → Int → Int → Int → Int → Int → Int → Int → Option (Int × Int × Int)
  | 0, _, _, _, _, _, _, _ => none
  | k + 1, x0, x1, x2, x9, x10, x11, x12 => if x12 < 128 then (if x11 ≥ 9223372036854775808 then (accountingref02_divide.l0 k (IntKind.u64.wrap ((IntKind.u64.wrap (2 * x0)) + (IntKind.u64.wrap (Int.tdiv x1 9223372036854775808)))) (IntKind.u64.wrap (2 * x1)) x2 (IntKind.u64.wrap ((IntKind.u64.wrap (2 * x9)) + (IntKind.u64.wrap (Int.tdiv x10 9223372036854775808)))) (IntKind.u64.wrap ((IntKind.u64.wrap (2 * x10)) + 1)) (IntKind.u64.wrap ((IntKind.u64.wrap ((IntKind.u64.wrap (2 * x11)) + (IntKind.u64.wrap (Int.tdiv x0 9223372036854775808)))) - x2)) (wrap64 (x12 + 1))) else (if (IntKind.u64.wrap ((IntKind.u64.wrap (2 * x11)) + (IntKind.u64.wrap (Int.tdiv x0 9223372036854775808)))) ≥ x2 then (accountingref02_divide.l0 k (IntKind.u64.wrap ((IntKind.u64.wrap (2 * x0)) + (IntKind.u64.wrap (Int.tdiv x1 9223372036854775808)))) (IntKind.u64.wrap (2 * x1)) x2 (IntKind.u64.wrap ((IntKind.u64.wrap (2 * x9)) + (IntKind.u64.wrap (Int.tdiv x10 9223372036854775808)))) (IntKind.u64.wrap ((IntKind.u64.wrap (2 * x10)) + 1)) (IntKind.u64.wrap ((IntKind.u64.wrap ((IntKind.u64.wrap (2 * x11)) + (IntKind.u64.wrap (Int.tdiv x0 9223372036854775808)))) - x2)) (wrap64 (x12 + 1))) else (accountingref02_divide.l0 k (IntKind.u64.wrap ((IntKind.u64.wrap (2 * x0)) + (IntKind.u64.wrap (Int.tdiv x1 9223372036854775808)))) (IntKind.u64.wrap (2 * x1)) x2 (IntKind.u64.wrap ((IntKind.u64.wrap (2 * x9)) + (IntKind.u64.wrap (Int.tdiv x10 9223372036854775808)))) (IntKind.u64.wrap (2 * x10)) (IntKind.u64.wrap ((IntKind.u64.wrap (2 * x11)) + (IntKind.u64.wrap (Int.tdiv x0 9223372036854775808)))) (wrap64 (x12 + 1))))) else (some (x9, x10, x11))
def accountingref02_divide.f (k : Nat) (a0 : Int) (a1 : Int) (a2 : Int) : Option (Int × Int × Int) := accountingref02_divide.l0 k a0 a1 a2 0 0 0 0
theorem accountingref02_divide.mono_l : ∀ k, (∀ y0 y1 y2 y3 y4 y5 y6, LeO (accountingref02_divide.l0 k y0 y1 y2 y3 y4 y5 y6) (accountingref02_divide.l0 (k + 1) y0 y1 y2 y3 y4 y5 y6))
  | 0 => fun _ _ _ _ _ _ _ r h => by simp [accountingref02_divide.l0] at h
  | k + 1 => by
    have ih0 := accountingref02_divide.mono_l k
    · intro y0 y1 y2 y3 y4 y5 y6
      unfold accountingref02_divide.l0
      repeat' first
      | (with_reducible exact ih0 _ _ _ _ _ _ _)
      | (with_reducible exact LeO.refl _)
      | (with_reducible exact LeO.none _)
      | (with_reducible refine LeO.ite ?_ ?_)
      | (with_reducible refine LeO.bind ?_ (fun _ => ?_))
      | exact ih0 _ _ _ _ _ _ _
      | exact LeO.none _
      | refine LeO.ite ?_ ?_
      | refine LeO.bind ?_ (fun _ => ?_)
theorem accountingref02_divide.mono : ∀ a0 a1 a2 k, LeO (accountingref02_divide.f k a0 a1 a2) (accountingref02_divide.f (k + 1) a0 a1 a2) := by
 intro a0 a1 a2 k
 have ih0 := accountingref02_divide.mono_l k
 unfold accountingref02_divide.f
 repeat' first
   | (with_reducible exact ih0 _ _ _ _ _ _ _)
   | (with_reducible exact LeO.refl _)
   | (with_reducible exact LeO.none _)
   | (with_reducible refine LeO.ite ?_ ?_)
   | (with_reducible refine LeO.bind ?_ (fun _ => ?_))
   | exact ih0 _ _ _ _ _ _ _
   | exact LeO.none _
   | refine LeO.ite ?_ ?_
   | refine LeO.bind ?_ (fun _ => ?_)
set_option maxHeartbeats 8000000 in
set_option maxRecDepth 100000 in
theorem accountingref02_divide.calls (k : Nat) (a0 : Int) (a1 : Int) (a2 : Int) (r1 : Int) (r2 : Int) (r3 : Int) (w : World) (h : accountingref02_divide.f k a0 a1 a2 = some (r1, r2, r3)) :
    Calls Try.prog 38 #[.int .u64 a0, .int .u64 a1, .int .u64 a2] w fun e w' => e = .returned (.tuple #[.int .u64 r1, .int .u64 r2, .int .u64 r3]) ∧ Drawn0 w w' := by
 have H : (accountingref02_divide.l0 k a0 a1 a2 0 0 0 0) = some (r1, r2, r3) := h
 clear h
 have H' := Aside0.mk H
 clear H
 go_enter Try.func38, Try.ntmps38
 go_wp2
 go_loopg [0, 1, 9, 10, 11, 12] k (fun kq v0 v1 v9 v10 v11 v12 w' => ∃ (x0_1 : Int) (x1_1 : Int) (x9_1 : Int) (x10_1 : Int) (x11_1 : Int) (x12_1 : Int), v0 = .int .u64 x0_1 ∧ v1 = .int .u64 x1_1 ∧ v9 = .int .u64 x9_1 ∧ v10 = .int .u64 x10_1 ∧ v11 = .int .u64 x11_1 ∧ v12 = .int .i64 x12_1 ∧ Aside0 (accountingref02_divide.l0 kq x0_1 x1_1 a2 x9_1 x10_1 x11_1 x12_1 = some (r1, r2, r3)) ∧ Aside0 (kq ≤ k) ∧ Drawn0 w w')
 case atStart => exact ⟨(a0), (a1), (0), (0), (0), (0), (by first | rfl | (simp; done) | (simp [*]; done)), (by first | rfl | (simp; done) | (simp [*]; done)), (by first | rfl | (simp; done) | (simp [*]; done)), (by first | rfl | (simp; done) | (simp [*]; done)), (by first | rfl | (simp; done) | (simp [*]; done)), (by first | rfl | (simp; done) | (simp [*]; done)), H', ⟨Nat.le_refl _⟩, by repeat (first | exact Drawn0.refl _ | apply Drawn0.step)⟩
 case round =>
  clear H'
  try clear p2
  try clear c3
  obtain ⟨x0_1, x1_1, x9_1, x10_1, x11_1, x12_1, rfl, rfl, rfl, rfl, rfl, rfl, HA, HK1, ⟨m1, rfl⟩⟩ := hrel
  cases gk with
  | zero => exact absurd HA.out (by simp [accountingref02_divide.l0])
  | succ k1 =>
   have H := HA.out
   clear HA
   simp only [accountingref02_divide.l0] at H
   by_cases c4 : x12_1 < 128
   ·rw [if_pos c4] at H
    have c4b0 : decide (x12_1 < 128) = true := decide_eq_true c4
    clear c4
    by_cases c5 : x11_1 ≥ 9223372036854775808
    ·rw [if_pos c5] at H
     have c5b0 : decide (9223372036854775808 ≤ x11_1) = true := decide_eq_true c5
     clear c5
     have H' := Aside0.mk H
     clear H
     go_wp2
     go_roundg k1
     case measure => have := HK1.out; omega
     case rel => exact ⟨(IntKind.u64.wrap ((IntKind.u64.wrap (2 * x0_1)) + (IntKind.u64.wrap (Int.tdiv x1_1 9223372036854775808)))), (IntKind.u64.wrap (2 * x1_1)), (IntKind.u64.wrap ((IntKind.u64.wrap (2 * x9_1)) + (IntKind.u64.wrap (Int.tdiv x10_1 9223372036854775808)))), (IntKind.u64.wrap ((IntKind.u64.wrap (2 * x10_1)) + 1)), (IntKind.u64.wrap ((IntKind.u64.wrap ((IntKind.u64.wrap (2 * x11_1)) + (IntKind.u64.wrap (Int.tdiv x0_1 9223372036854775808)))) - a2)), (wrap64 (x12_1 + 1)), (by first | rfl | (simp; done) | (simp [*]; done)), (by first | rfl | (simp; done) | (simp [*]; done)), (by first | rfl | (simp; done) | (simp [*]; done)), (by first | rfl | (simp; done) | (simp [*]; done)), (by first | rfl | (simp; done) | (simp [*]; done)), (by first | rfl | (simp; done) | (simp [*]; done)), H', ⟨by have := HK1.out; omega⟩, by repeat (first | exact Drawn0.refl _ | apply Drawn0.step)⟩
    ·rw [if_neg c5] at H
     have c5b0 : decide (9223372036854775808 ≤ x11_1) = false := decide_eq_false c5
     clear c5
     by_cases c6 : (IntKind.u64.wrap ((IntKind.u64.wrap (2 * x11_1)) + (IntKind.u64.wrap (Int.tdiv x0_1 9223372036854775808)))) ≥ a2
     ·rw [if_pos c6] at H
      have c6b0 : decide (a2 ≤ (IntKind.u64.wrap ((IntKind.u64.wrap (2 * x11_1)) + (IntKind.u64.wrap (Int.tdiv x0_1 9223372036854775808))))) = true := decide_eq_true c6
      clear c6
      have H' := Aside0.mk H
      clear H
      go_wp2
      go_roundg k1
      case measure => have := HK1.out; omega
      case rel => exact ⟨(IntKind.u64.wrap ((IntKind.u64.wrap (2 * x0_1)) + (IntKind.u64.wrap (Int.tdiv x1_1 9223372036854775808)))), (IntKind.u64.wrap (2 * x1_1)), (IntKind.u64.wrap ((IntKind.u64.wrap (2 * x9_1)) + (IntKind.u64.wrap (Int.tdiv x10_1 9223372036854775808)))), (IntKind.u64.wrap ((IntKind.u64.wrap (2 * x10_1)) + 1)), (IntKind.u64.wrap ((IntKind.u64.wrap ((IntKind.u64.wrap (2 * x11_1)) + (IntKind.u64.wrap (Int.tdiv x0_1 9223372036854775808)))) - a2)), (wrap64 (x12_1 + 1)), (by first | rfl | (simp; done) | (simp [*]; done)), (by first | rfl | (simp; done) | (simp [*]; done)), (by first | rfl | (simp; done) | (simp [*]; done)), (by first | rfl | (simp; done) | (simp [*]; done)), (by first | rfl | (simp; done) | (simp [*]; done)), (by first | rfl | (simp; done) | (simp [*]; done)), H', ⟨by have := HK1.out; omega⟩, by repeat (first | exact Drawn0.refl _ | apply Drawn0.step)⟩
     ·rw [if_neg c6] at H
      have c6b0 : decide (a2 ≤ (IntKind.u64.wrap ((IntKind.u64.wrap (2 * x11_1)) + (IntKind.u64.wrap (Int.tdiv x0_1 9223372036854775808))))) = false := decide_eq_false c6
      clear c6
      have H' := Aside0.mk H
      clear H
      go_wp2
      go_roundg k1
      case measure => have := HK1.out; omega
      case rel => exact ⟨(IntKind.u64.wrap ((IntKind.u64.wrap (2 * x0_1)) + (IntKind.u64.wrap (Int.tdiv x1_1 9223372036854775808)))), (IntKind.u64.wrap (2 * x1_1)), (IntKind.u64.wrap ((IntKind.u64.wrap (2 * x9_1)) + (IntKind.u64.wrap (Int.tdiv x10_1 9223372036854775808)))), (IntKind.u64.wrap (2 * x10_1)), (IntKind.u64.wrap ((IntKind.u64.wrap (2 * x11_1)) + (IntKind.u64.wrap (Int.tdiv x0_1 9223372036854775808)))), (wrap64 (x12_1 + 1)), (by first | rfl | (simp; done) | (simp [*]; done)), (by first | rfl | (simp; done) | (simp [*]; done)), (by first | rfl | (simp; done) | (simp [*]; done)), (by first | rfl | (simp; done) | (simp [*]; done)), (by first | rfl | (simp; done) | (simp [*]; done)), (by first | rfl | (simp; done) | (simp [*]; done)), H', ⟨by have := HK1.out; omega⟩, by repeat (first | exact Drawn0.refl _ | apply Drawn0.step)⟩
   ·rw [if_neg c4] at H
    have c4b0 : decide (x12_1 < 128) = false := decide_eq_false c4
    clear c4
    simp only [Option.some.injEq, Prod.mk.injEq] at H
    obtain ⟨rfl, rfl, rfl⟩ := H
    go_wp2
    go_ret3
    exact ⟨by first | rfl | (simp; done) | (simp [*]; done), by repeat (first | exact Drawn0.refl _ | apply Drawn0.step)⟩

end Go.Proofs.Ytikglhfeookhaaa.M
end
section
-- Written by mprint.py (a program of this session) over the kit's print.
namespace Go.Proofs.Ytikglhfeookhaaa.M
open Go.RowKit Go.Proofs.YtikglhfeookhaaaW.PrintWords Go.Proofs.YtikglhfeookhaaaW.PrintLast Go.Proofs.YtikglhfeookhaaaW.PrintMore
attribute [local go_sem] max2_int min2_int max_two min_two max_three min_three max_four min_four   -- for this text's walks alone
set_option linter.unusedVariables false
set_option linter.unusedSimpArgs false

/-! ### accountingref02_away: function 39 -/
def accountingref02_away.f (a0 : Int) (a1 : Bool) (a2 : Bool) (a3 : Int) (a4 : Int) : Option (Bool) := if a0 = 2 then (some (decide (a3 > 0))) else (if a0 = 3 then (some (decide (a3 ≥ (IntKind.u64.wrap (a4 - a3))))) else (if a0 = 4 then (if a3 > (IntKind.u64.wrap (a4 - a3)) then (some true) else (if a3 = (IntKind.u64.wrap (a4 - a3)) then (some a2) else (some false))) else (if a0 = 5 then (if a1 = true then (some (decide (a3 > 0))) else (some false)) else (some false))))
set_option maxHeartbeats 8000000 in
set_option maxRecDepth 100000 in
theorem accountingref02_away.calls (a0 : Int) (a1 : Bool) (a2 : Bool) (a3 : Int) (a4 : Int) (r : Bool) (w : World) (h : accountingref02_away.f a0 a1 a2 a3 a4 = some r) :
    Calls Try.prog 39 #[.int .i64 a0, .bool a1, .bool a2, .int .u64 a3, .int .u64 a4] w fun e w' => e = .returned (.bool r) ∧ Drawn0 w w' := by
 have H : (if a0 = 2 then (some (decide (a3 > 0))) else (if a0 = 3 then (some (decide (a3 ≥ (IntKind.u64.wrap (a4 - a3))))) else (if a0 = 4 then (if a3 > (IntKind.u64.wrap (a4 - a3)) then (some true) else (if a3 = (IntKind.u64.wrap (a4 - a3)) then (some a2) else (some false))) else (if a0 = 5 then (if a1 = true then (some (decide (a3 > 0))) else (some false)) else (some false))))) = some r := h
 clear h
 by_cases c6 : a0 = 2
 ·rw [if_pos c6] at H
  have c6b0 : (a0 == 2) = true := beq_iff_eq.mpr c6
  have c6b1 : (a0 != 2) = false := bne_eq_false_iff_eq.mpr c6
  clear c6
  obtain rfl := Option.some.inj H
  go_enter Try.func39, Try.ntmps39
  go_wp2
  go_ret
  exact ⟨by first | rfl | (simp; done) | (simp [*]; done), by repeat (first | exact Drawn0.refl _ | apply Drawn0.step)⟩
 ·rw [if_neg c6] at H
  have c6b0 : (a0 == 2) = false := beq_eq_false_iff_ne.mpr c6
  have c6b1 : (a0 != 2) = true := bne_iff_ne.mpr c6
  by_cases c7 : a0 = 3
  ·rw [if_pos c7] at H
   have c7b0 : (a0 == 3) = true := beq_iff_eq.mpr c7
   have c7b1 : (a0 != 3) = false := bne_eq_false_iff_eq.mpr c7
   clear c7
   obtain rfl := Option.some.inj H
   go_enter Try.func39, Try.ntmps39
   go_wp2
   go_ret
   exact ⟨by first | rfl | (simp; done) | (simp [*]; done), by repeat (first | exact Drawn0.refl _ | apply Drawn0.step)⟩
  ·rw [if_neg c7] at H
   have c7b0 : (a0 == 3) = false := beq_eq_false_iff_ne.mpr c7
   have c7b1 : (a0 != 3) = true := bne_iff_ne.mpr c7
   by_cases c8 : a0 = 4
   ·rw [if_pos c8] at H
    have c8b0 : (a0 == 4) = true := beq_iff_eq.mpr c8
    have c8b1 : (a0 != 4) = false := bne_eq_false_iff_eq.mpr c8
    clear c8
    by_cases c9 : a3 > (IntKind.u64.wrap (a4 - a3))
    ·rw [if_pos c9] at H
     have c9b0 : decide ((IntKind.u64.wrap (a4 - a3)) < a3) = true := decide_eq_true c9
     clear c9
     obtain rfl := Option.some.inj H
     go_enter Try.func39, Try.ntmps39
     go_wp2
     go_ret
     exact ⟨by first | rfl | (simp; done) | (simp [*]; done), by repeat (first | exact Drawn0.refl _ | apply Drawn0.step)⟩
    ·rw [if_neg c9] at H
     have c9b0 : decide ((IntKind.u64.wrap (a4 - a3)) < a3) = false := decide_eq_false c9
     clear c9
     by_cases c10 : a3 = (IntKind.u64.wrap (a4 - a3))
     ·rw [if_pos c10] at H
      have c10b0 : (a3 == (IntKind.u64.wrap (a4 - a3))) = true := beq_iff_eq.mpr c10
      have c10b1 : (a3 != (IntKind.u64.wrap (a4 - a3))) = false := bne_eq_false_iff_eq.mpr c10
      clear c10
      obtain rfl := Option.some.inj H
      go_enter Try.func39, Try.ntmps39
      go_wp2
      go_ret
      exact ⟨by first | rfl | (simp; done) | (simp [*]; done), by repeat (first | exact Drawn0.refl _ | apply Drawn0.step)⟩
     ·rw [if_neg c10] at H
      have c10b0 : (a3 == (IntKind.u64.wrap (a4 - a3))) = false := beq_eq_false_iff_ne.mpr c10
      have c10b1 : (a3 != (IntKind.u64.wrap (a4 - a3))) = true := bne_iff_ne.mpr c10
      obtain rfl := Option.some.inj H
      go_enter Try.func39, Try.ntmps39
      go_wp2
      go_ret
      exact ⟨by first | rfl | (simp; done) | (simp [*]; done), by repeat (first | exact Drawn0.refl _ | apply Drawn0.step)⟩
   ·rw [if_neg c8] at H
    have c8b0 : (a0 == 4) = false := beq_eq_false_iff_ne.mpr c8
    have c8b1 : (a0 != 4) = true := bne_iff_ne.mpr c8
    by_cases c11 : a0 = 5
    ·rw [if_pos c11] at H
     have c11b0 : (a0 == 5) = true := beq_iff_eq.mpr c11
     have c11b1 : (a0 != 5) = false := bne_eq_false_iff_eq.mpr c11
     clear c11
     by_cases c12 : a1 = true
     ·subst c12
      have H1 : (some (decide (a3 > 0))) = some r := by rw [if_pos rfl] at H; exact H
      clear H
      have H := H1
      clear H1
      obtain rfl := Option.some.inj H
      go_enter Try.func39, Try.ntmps39
      go_wp2
      go_ret
      exact ⟨by first | rfl | (simp; done) | (simp [*]; done), by repeat (first | exact Drawn0.refl _ | apply Drawn0.step)⟩
     ·replace c12 := Bool.eq_false_iff.mpr c12
      subst c12
      have H1 : (some false) = some r := by rw [if_neg (show ¬ (false = true) by decide)] at H; exact H
      clear H
      have H := H1
      clear H1
      obtain rfl := Option.some.inj H
      go_enter Try.func39, Try.ntmps39
      go_wp2
      go_ret
      exact ⟨by first | rfl | (simp; done) | (simp [*]; done), by repeat (first | exact Drawn0.refl _ | apply Drawn0.step)⟩
    ·rw [if_neg c11] at H
     have c11b0 : (a0 == 5) = false := beq_eq_false_iff_ne.mpr c11
     have c11b1 : (a0 != 5) = true := bne_iff_ne.mpr c11
     obtain rfl := Option.some.inj H
     go_enter Try.func39, Try.ntmps39
     go_wp2
     go_ret
     exact ⟨by first | rfl | (simp; done) | (simp [*]; done), by repeat (first | exact Drawn0.refl _ | apply Drawn0.step)⟩

end Go.Proofs.Ytikglhfeookhaaa.M
end
section
-- Written by mprint.py (a program of this session) over the kit's print.
namespace Go.Proofs.Ytikglhfeookhaaa.M
open Go.RowKit Go.Proofs.YtikglhfeookhaaaW.PrintWords Go.Proofs.YtikglhfeookhaaaW.PrintLast Go.Proofs.YtikglhfeookhaaaW.PrintMore
attribute [local go_sem] max2_int min2_int max_two min_two max_three min_three max_four min_four   -- for this text's walks alone
set_option linter.unusedVariables false
set_option linter.unusedSimpArgs false

/-! ### accountingref02_MulDiv: function 24 -/
mutual
def accountingref02_MulDiv.j0 : Nat → Int → Int → Int → Int → Bool → Option (Int × Int)
  | 0, _, _, _, _, _ => none
  | k + 1, x0, x1, x2, x3, x21 => if x21 = true then (some (0, 10)) else (if x2 = 0 then (some (0, 2)) else ((accountingref02_mag.f x0).bind fun t101 => ((accountingref02_mag.f x1).bind fun t102 => ((accountingref02_wide.f t101 t102).bind fun bt103 => ((accountingref02_mag.f x2).bind fun t105 => ((accountingref02_divide.f k bt103.1 bt103.2 t105).bind fun bt106 => (if bt106.1 > 0 then (accountingref02_MulDiv.j1 k x2 x3 bt106.2.1 bt106.2.2 (((decide (x0 < 0)) != (decide (x1 < 0))) != (decide (x2 < 0))) true) else (accountingref02_MulDiv.j1 k x2 x3 bt106.2.1 bt106.2.2 (((decide (x0 < 0)) != (decide (x1 < 0))) != (decide (x2 < 0))) (decide (bt106.2.1 > 9223372036854775808))))))))))
def accountingref02_MulDiv.j1 : Nat → Int → Int → Int → Int → Bool → Bool → Option (Int × Int)
  | 0, _, _, _, _, _, _ => none
  | k + 1, x2, x3, x13, x14, x15, x54 => if x54 = true then (some (0, 4)) else ((accountingref02_mag.f x2).bind fun t109 => ((accountingref02_away.f x3 x15 ((Int.tmod x13 2) == 1) x14 t109).bind fun t110 => (if t110 = true then (accountingref02_MulDiv.j2 k (IntKind.u64.wrap (x13 + 1)) x15) else (accountingref02_MulDiv.j2 k x13 x15))))
def accountingref02_MulDiv.j2 : Nat → Int → Bool → Option (Int × Int)
  | 0, _, _ => none
  | k + 1, x13, x15 => if x13 > 9223372036854775808 then (accountingref02_MulDiv.j3 k x13 x15 true) else (if x13 = 9223372036854775808 then (accountingref02_MulDiv.j3 k x13 x15 (!x15)) else (accountingref02_MulDiv.j3 k x13 x15 false))
def accountingref02_MulDiv.j3 : Nat → Int → Bool → Bool → Option (Int × Int)
  | 0, _, _, _ => none
  | k + 1, x13, x15, x75 => if x75 = true then (some (0, 4)) else (if x13 = 9223372036854775808 then (some ((-9223372036854775808), 0)) else (if x15 = true then (some (wrap64 (-(wrap64 (x13))), 0)) else (some (wrap64 (x13), 0))))
end
def accountingref02_MulDiv.f (k : Nat) (a0 : Int) (a1 : Int) (a2 : Int) (a3 : Int) : Option (Int × Int) := if a3 < 1 then (accountingref02_MulDiv.j0 k a0 a1 a2 a3 true) else (accountingref02_MulDiv.j0 k a0 a1 a2 a3 (decide (a3 > 5)))
theorem accountingref02_MulDiv.mono_l : ∀ k, (∀ y0 y1 y2 y3 y4, LeO (accountingref02_MulDiv.j0 k y0 y1 y2 y3 y4) (accountingref02_MulDiv.j0 (k + 1) y0 y1 y2 y3 y4)) ∧ (∀ y0 y1 y2 y3 y4 y5, LeO (accountingref02_MulDiv.j1 k y0 y1 y2 y3 y4 y5) (accountingref02_MulDiv.j1 (k + 1) y0 y1 y2 y3 y4 y5)) ∧ (∀ y0 y1, LeO (accountingref02_MulDiv.j2 k y0 y1) (accountingref02_MulDiv.j2 (k + 1) y0 y1)) ∧ (∀ y0 y1 y2, LeO (accountingref02_MulDiv.j3 k y0 y1 y2) (accountingref02_MulDiv.j3 (k + 1) y0 y1 y2))
  | 0 => ⟨fun _ _ _ _ _ r h => by simp [accountingref02_MulDiv.j0] at h, fun _ _ _ _ _ _ r h => by simp [accountingref02_MulDiv.j1] at h, fun _ _ r h => by simp [accountingref02_MulDiv.j2] at h, fun _ _ _ r h => by simp [accountingref02_MulDiv.j3] at h⟩
  | k + 1 => by
    obtain ⟨ih0, ih1, ih2, ih3⟩ := accountingref02_MulDiv.mono_l k
    refine ⟨?_, ?_, ?_, ?_⟩
    · intro y0 y1 y2 y3 y4
      unfold accountingref02_MulDiv.j0
      repeat' first
      | (with_reducible exact ih0 _ _ _ _ _)
      | (with_reducible exact ih1 _ _ _ _ _ _)
      | (with_reducible exact ih2 _ _)
      | (with_reducible exact ih3 _ _ _)
      | (with_reducible exact accountingref02_divide.mono _ _ _ _)
      | (with_reducible exact LeO.refl _)
      | (with_reducible exact LeO.none _)
      | (with_reducible refine LeO.ite ?_ ?_)
      | (with_reducible refine LeO.bind ?_ (fun _ => ?_))
      | exact ih0 _ _ _ _ _
      | exact ih1 _ _ _ _ _ _
      | exact ih2 _ _
      | exact ih3 _ _ _
      | exact accountingref02_divide.mono _ _ _ _
      | exact LeO.none _
      | refine LeO.ite ?_ ?_
      | refine LeO.bind ?_ (fun _ => ?_)
    · intro y0 y1 y2 y3 y4 y5
      unfold accountingref02_MulDiv.j1
      repeat' first
      | (with_reducible exact ih0 _ _ _ _ _)
      | (with_reducible exact ih1 _ _ _ _ _ _)
      | (with_reducible exact ih2 _ _)
      | (with_reducible exact ih3 _ _ _)
      | (with_reducible exact accountingref02_divide.mono _ _ _ _)
      | (with_reducible exact LeO.refl _)
      | (with_reducible exact LeO.none _)
      | (with_reducible refine LeO.ite ?_ ?_)
      | (with_reducible refine LeO.bind ?_ (fun _ => ?_))
      | exact ih0 _ _ _ _ _
      | exact ih1 _ _ _ _ _ _
      | exact ih2 _ _
      | exact ih3 _ _ _
      | exact accountingref02_divide.mono _ _ _ _
      | exact LeO.none _
      | refine LeO.ite ?_ ?_
      | refine LeO.bind ?_ (fun _ => ?_)
    · intro y0 y1
      unfold accountingref02_MulDiv.j2
      repeat' first
      | (with_reducible exact ih0 _ _ _ _ _)
      | (with_reducible exact ih1 _ _ _ _ _ _)
      | (with_reducible exact ih2 _ _)
      | (with_reducible exact ih3 _ _ _)
      | (with_reducible exact accountingref02_divide.mono _ _ _ _)
      | (with_reducible exact LeO.refl _)
      | (with_reducible exact LeO.none _)
      | (with_reducible refine LeO.ite ?_ ?_)
      | (with_reducible refine LeO.bind ?_ (fun _ => ?_))
      | exact ih0 _ _ _ _ _
      | exact ih1 _ _ _ _ _ _
      | exact ih2 _ _
      | exact ih3 _ _ _
      | exact accountingref02_divide.mono _ _ _ _
      | exact LeO.none _
      | refine LeO.ite ?_ ?_
      | refine LeO.bind ?_ (fun _ => ?_)
    · intro y0 y1 y2
      unfold accountingref02_MulDiv.j3
      repeat' first
      | (with_reducible exact ih0 _ _ _ _ _)
      | (with_reducible exact ih1 _ _ _ _ _ _)
      | (with_reducible exact ih2 _ _)
      | (with_reducible exact ih3 _ _ _)
      | (with_reducible exact accountingref02_divide.mono _ _ _ _)
      | (with_reducible exact LeO.refl _)
      | (with_reducible exact LeO.none _)
      | (with_reducible refine LeO.ite ?_ ?_)
      | (with_reducible refine LeO.bind ?_ (fun _ => ?_))
      | exact ih0 _ _ _ _ _
      | exact ih1 _ _ _ _ _ _
      | exact ih2 _ _
      | exact ih3 _ _ _
      | exact accountingref02_divide.mono _ _ _ _
      | exact LeO.none _
      | refine LeO.ite ?_ ?_
      | refine LeO.bind ?_ (fun _ => ?_)
theorem accountingref02_MulDiv.mono : ∀ a0 a1 a2 a3 k, LeO (accountingref02_MulDiv.f k a0 a1 a2 a3) (accountingref02_MulDiv.f (k + 1) a0 a1 a2 a3) := by
 intro a0 a1 a2 a3 k
 obtain ⟨ih0, ih1, ih2, ih3⟩ := accountingref02_MulDiv.mono_l k
 unfold accountingref02_MulDiv.f
 repeat' first
   | (with_reducible exact ih0 _ _ _ _ _)
   | (with_reducible exact ih1 _ _ _ _ _ _)
   | (with_reducible exact ih2 _ _)
   | (with_reducible exact ih3 _ _ _)
   | (with_reducible exact accountingref02_divide.mono _ _ _ _)
   | (with_reducible exact LeO.refl _)
   | (with_reducible exact LeO.none _)
   | (with_reducible refine LeO.ite ?_ ?_)
   | (with_reducible refine LeO.bind ?_ (fun _ => ?_))
   | exact ih0 _ _ _ _ _
   | exact ih1 _ _ _ _ _ _
   | exact ih2 _ _
   | exact ih3 _ _ _
   | exact accountingref02_divide.mono _ _ _ _
   | exact LeO.none _
   | refine LeO.ite ?_ ?_
   | refine LeO.bind ?_ (fun _ => ?_)
set_option maxHeartbeats 8000000 in
set_option maxRecDepth 100000 in
theorem accountingref02_MulDiv.calls (k : Nat) (a0 : Int) (a1 : Int) (a2 : Int) (a3 : Int) (r1 : Int) (r2 : Int) (w : World) (h : accountingref02_MulDiv.f k a0 a1 a2 a3 = some (r1, r2)) :
    Calls Try.prog 24 #[.int .i64 a0, .int .i64 a1, .int .i64 a2, .int .i64 a3] w fun e w' => e = .returned (.tuple #[.int .i64 r1, .int .i64 r2]) ∧ Drawn0 w w' := by
 have H : (if a3 < 1 then (accountingref02_MulDiv.j0 k a0 a1 a2 a3 true) else (accountingref02_MulDiv.j0 k a0 a1 a2 a3 (decide (a3 > 5)))) = some (r1, r2) := h
 clear h
 have HC5 := Aside0.mk H
 clear H
 go_enter Try.func24, Try.ntmps24
 go_upto_region 1 with (fail)
 go_cut [21] (fun v21 wc => ∃ (kq : Nat) (x21_4 : Bool), v21 = .bool x21_4 ∧ Aside0 (accountingref02_MulDiv.j0 kq a0 a1 a2 a3 x21_4 = some (r1, r2)) ∧ Aside0 (kq ≤ k) ∧ Drawn0 w wc)
 case first =>
  have H := HC5.out
  clear HC5
  by_cases c6 : a3 < 1
  ·rw [if_pos c6] at H
   have c6b0 : decide (a3 < 1) = true := decide_eq_true c6
   clear c6
   (first | rw [c6b0] | (simp only [i64_w, i32_w]; rw [c6b0]) | skip)
   have H' := Aside0.mk H
   clear H
   go_wp2
   go_meet
   case rel => exact ⟨_, (true), (by first | rfl | (simp; done) | (simp [*]; done)), H', ⟨by first | omega | exact Nat.le_refl _⟩, by repeat (first | exact Drawn0.refl _ | apply Drawn0.step)⟩
  ·rw [if_neg c6] at H
   have c6b0 : decide (a3 < 1) = false := decide_eq_false c6
   clear c6
   (first | rw [c6b0] | (simp only [i64_w, i32_w]; rw [c6b0]) | skip)
   have H' := Aside0.mk H
   clear H
   go_wp2
   go_meet
   case rel => exact ⟨_, (decide (a3 > 5)), (by first | rfl | (simp; done) | (simp [*]; done)), H', ⟨by first | omega | exact Nat.le_refl _⟩, by repeat (first | exact Drawn0.refl _ | apply Drawn0.step)⟩
 case rest =>
  clear HC5
  try clear c2
  try clear p2
  try clear c6
  try clear c6b0
  obtain ⟨kq, x21_4, rfl, HA, HJ4, ⟨mc4, rfl⟩⟩ := hcut
  cases kq with
  | zero => exact absurd HA.out (by simp [accountingref02_MulDiv.j0])
  | succ kj4 =>
   have H := HA.out
   clear HA
   simp only [accountingref02_MulDiv.j0] at H
   by_cases c7 : x21_4 = true
   ·subst c7
    have H1 : (some (0, 10)) = some (r1, r2) := by rw [if_pos rfl] at H; exact H
    clear H
    have H := H1
    clear H1
    simp only [Option.some.injEq, Prod.mk.injEq] at H
    obtain ⟨rfl, rfl⟩ := H
    go_wp2
    go_ret2
    exact ⟨by first | rfl | (simp; done) | (simp [*]; done), by repeat (first | exact Drawn0.refl _ | apply Drawn0.step)⟩
   ·replace c7 := Bool.eq_false_iff.mpr c7
    subst c7
    have H1 : (if a2 = 0 then (some (0, 2)) else ((accountingref02_mag.f a0).bind fun t101 => ((accountingref02_mag.f a1).bind fun t102 => ((accountingref02_wide.f t101 t102).bind fun bt103 => ((accountingref02_mag.f a2).bind fun t105 => ((accountingref02_divide.f kj4 bt103.1 bt103.2 t105).bind fun bt106 => (if bt106.1 > 0 then (accountingref02_MulDiv.j1 kj4 a2 a3 bt106.2.1 bt106.2.2 (((decide (a0 < 0)) != (decide (a1 < 0))) != (decide (a2 < 0))) true) else (accountingref02_MulDiv.j1 kj4 a2 a3 bt106.2.1 bt106.2.2 (((decide (a0 < 0)) != (decide (a1 < 0))) != (decide (a2 < 0))) (decide (bt106.2.1 > 9223372036854775808)))))))))) = some (r1, r2) := by rw [if_neg (show ¬ (false = true) by decide)] at H; exact H
    clear H
    have H := H1
    clear H1
    by_cases c8 : a2 = 0
    ·rw [if_pos c8] at H
     have c8b0 : (a2 == 0) = true := beq_iff_eq.mpr c8
     have c8b1 : (a2 != 0) = false := bne_eq_false_iff_eq.mpr c8
     clear c8
     simp only [Option.some.injEq, Prod.mk.injEq] at H
     obtain ⟨rfl, rfl⟩ := H
     go_wp2
     go_ret2
     exact ⟨by first | rfl | (simp; done) | (simp [*]; done), by repeat (first | exact Drawn0.refl _ | apply Drawn0.step)⟩
    ·rw [if_neg c8] at H
     have c8b0 : (a2 == 0) = false := beq_eq_false_iff_ne.mpr c8
     have c8b1 : (a2 != 0) = true := bne_iff_ne.mpr c8
     replace H := Option.bind_eq_some_iff.mp H
     obtain ⟨t101, A90, H⟩ := H
     replace H : ((accountingref02_mag.f a1).bind fun t102 => ((accountingref02_wide.f t101 t102).bind fun bt103 => ((accountingref02_mag.f a2).bind fun t105 => ((accountingref02_divide.f kj4 bt103.1 bt103.2 t105).bind fun bt106 => (if bt106.1 > 0 then (accountingref02_MulDiv.j1 kj4 a2 a3 bt106.2.1 bt106.2.2 (((decide (a0 < 0)) != (decide (a1 < 0))) != (decide (a2 < 0))) true) else (accountingref02_MulDiv.j1 kj4 a2 a3 bt106.2.1 bt106.2.2 (((decide (a0 < 0)) != (decide (a1 < 0))) != (decide (a2 < 0))) (decide (bt106.2.1 > 9223372036854775808)))))))) = some (r1, r2) := H
     have A9 := Aside0.mk A90
     clear A90
     replace H := Option.bind_eq_some_iff.mp H
     obtain ⟨t102, A100, H⟩ := H
     replace H : ((accountingref02_wide.f t101 t102).bind fun bt103 => ((accountingref02_mag.f a2).bind fun t105 => ((accountingref02_divide.f kj4 bt103.1 bt103.2 t105).bind fun bt106 => (if bt106.1 > 0 then (accountingref02_MulDiv.j1 kj4 a2 a3 bt106.2.1 bt106.2.2 (((decide (a0 < 0)) != (decide (a1 < 0))) != (decide (a2 < 0))) true) else (accountingref02_MulDiv.j1 kj4 a2 a3 bt106.2.1 bt106.2.2 (((decide (a0 < 0)) != (decide (a1 < 0))) != (decide (a2 < 0))) (decide (bt106.2.1 > 9223372036854775808))))))) = some (r1, r2) := H
     have A10 := Aside0.mk A100
     clear A100
     replace H := Option.bind_eq_some_iff.mp H
     obtain ⟨⟨t103, t104⟩, A110, H⟩ := H
     replace H : ((accountingref02_mag.f a2).bind fun t105 => ((accountingref02_divide.f kj4 t103 t104 t105).bind fun bt106 => (if bt106.1 > 0 then (accountingref02_MulDiv.j1 kj4 a2 a3 bt106.2.1 bt106.2.2 (((decide (a0 < 0)) != (decide (a1 < 0))) != (decide (a2 < 0))) true) else (accountingref02_MulDiv.j1 kj4 a2 a3 bt106.2.1 bt106.2.2 (((decide (a0 < 0)) != (decide (a1 < 0))) != (decide (a2 < 0))) (decide (bt106.2.1 > 9223372036854775808)))))) = some (r1, r2) := H
     have A11 := Aside0.mk A110
     clear A110
     replace H := Option.bind_eq_some_iff.mp H
     obtain ⟨t105, A120, H⟩ := H
     replace H : ((accountingref02_divide.f kj4 t103 t104 t105).bind fun bt106 => (if bt106.1 > 0 then (accountingref02_MulDiv.j1 kj4 a2 a3 bt106.2.1 bt106.2.2 (((decide (a0 < 0)) != (decide (a1 < 0))) != (decide (a2 < 0))) true) else (accountingref02_MulDiv.j1 kj4 a2 a3 bt106.2.1 bt106.2.2 (((decide (a0 < 0)) != (decide (a1 < 0))) != (decide (a2 < 0))) (decide (bt106.2.1 > 9223372036854775808))))) = some (r1, r2) := H
     have A12 := Aside0.mk A120
     clear A120
     replace H := Option.bind_eq_some_iff.mp H
     obtain ⟨⟨t106, t107, t108⟩, A130, H⟩ := H
     replace H : (if t106 > 0 then (accountingref02_MulDiv.j1 kj4 a2 a3 t107 t108 (((decide (a0 < 0)) != (decide (a1 < 0))) != (decide (a2 < 0))) true) else (accountingref02_MulDiv.j1 kj4 a2 a3 t107 t108 (((decide (a0 < 0)) != (decide (a1 < 0))) != (decide (a2 < 0))) (decide (t107 > 9223372036854775808)))) = some (r1, r2) := H
     have A13 := Aside0.mk A130
     clear A130
     have HC14 := Aside0.mk H
     clear H
     go_upto_region 8 with (first | ((with_reducible refine gate_callee (f := 37) rfl ?_); refine goesL_ (some 26) rfl rfl Try.func37 (by kernel_rfl) rfl #[.int .i64 a0] rfl (by (try simp only [List.map_toArray, List.map_cons, List.map_nil]); first | done | rfl | (simp only [List.length_drop, List.length_take]; rfl)) ?_; (with_reducible refine (accountingref02_mag.calls a0 t101 _ A9.out).mono ?_); rintro e w' ⟨rfl, ⟨nd, rfl⟩⟩; refine ⟨_, rfl, ?_⟩) | ((with_reducible refine gate_callee (f := 37) rfl ?_); refine goesL_ (some 28) rfl rfl Try.func37 (by kernel_rfl) rfl #[.int .i64 a1] rfl (by (try simp only [List.map_toArray, List.map_cons, List.map_nil]); first | done | rfl | (simp only [List.length_drop, List.length_take]; rfl)) ?_; (with_reducible refine (accountingref02_mag.calls a1 t102 _ A10.out).mono ?_); rintro e w' ⟨rfl, ⟨nd, rfl⟩⟩; refine ⟨_, rfl, ?_⟩) | ((with_reducible refine gate_callee (f := 36) rfl ?_); refine goesL_ (some 29) rfl rfl Try.func36 (by kernel_rfl) rfl #[.int .u64 t101, .int .u64 t102] rfl (by (try simp only [List.map_toArray, List.map_cons, List.map_nil]); first | done | rfl | (simp only [List.length_drop, List.length_take]; rfl)) ?_; (with_reducible refine (accountingref02_wide.calls t101 t102 t103 t104 _ A11.out).mono ?_); rintro e w' ⟨rfl, ⟨nd, rfl⟩⟩; refine ⟨_, rfl, ?_⟩) | ((with_reducible refine gate_callee (f := 37) rfl ?_); refine goesL_ (some 36) rfl rfl Try.func37 (by kernel_rfl) rfl #[.int .i64 a2] rfl (by (try simp only [List.map_toArray, List.map_cons, List.map_nil]); first | done | rfl | (simp only [List.length_drop, List.length_take]; rfl)) ?_; (with_reducible refine (accountingref02_mag.calls a2 t105 _ A12.out).mono ?_); rintro e w' ⟨rfl, ⟨nd, rfl⟩⟩; refine ⟨_, rfl, ?_⟩) | ((with_reducible refine gate_callee (f := 38) rfl ?_); refine goesL_ (some 37) rfl rfl Try.func38 (by kernel_rfl) rfl #[.int .u64 t103, .int .u64 t104, .int .u64 t105] rfl (by (try simp only [List.map_toArray, List.map_cons, List.map_nil]); first | done | rfl | (simp only [List.length_drop, List.length_take]; rfl)) ?_; (with_reducible refine (accountingref02_divide.calls kj4 t103 t104 t105 t106 t107 t108 _ A13.out).mono ?_); rintro e w' ⟨rfl, ⟨nd, rfl⟩⟩; refine ⟨_, rfl, ?_⟩))
     (try simp only [Act.put, List.setIfInBounds_toArray, List.set_cons_zero, List.set_cons_succ])
     go_cut [54] (fun v54 wc => ∃ (kq : Nat) (x54_13 : Bool), v54 = .bool x54_13 ∧ Aside0 (accountingref02_MulDiv.j1 kq a2 a3 t107 t108 (((decide (a0 < 0)) != (decide (a1 < 0))) != (decide (a2 < 0))) x54_13 = some (r1, r2)) ∧ Aside0 (kq ≤ kj4) ∧ Drawn0 w wc)
     case first =>
      have H := HC14.out
      clear HC14
      by_cases c15 : t106 > 0
      ·rw [if_pos c15] at H
       have c15b0 : decide (0 < t106) = true := decide_eq_true c15
       clear c15
       (first | rw [c15b0] | (simp only [i64_w, i32_w]; rw [c15b0]) | skip)
       have H' := Aside0.mk H
       clear H
       go_wp2
       go_meet
       case rel => exact ⟨_, (true), (by first | rfl | (simp; done) | (simp [*]; done)), H', ⟨by have := HJ4.out; first | omega | exact Nat.le_refl _⟩, by repeat (first | exact Drawn0.refl _ | apply Drawn0.step)⟩
      ·rw [if_neg c15] at H
       have c15b0 : decide (0 < t106) = false := decide_eq_false c15
       clear c15
       (first | rw [c15b0] | (simp only [i64_w, i32_w]; rw [c15b0]) | skip)
       have H' := Aside0.mk H
       clear H
       go_wp2
       go_meet
       case rel => exact ⟨_, (decide (t107 > 9223372036854775808)), (by first | rfl | (simp; done) | (simp [*]; done)), H', ⟨by have := HJ4.out; first | omega | exact Nat.le_refl _⟩, by repeat (first | exact Drawn0.refl _ | apply Drawn0.step)⟩
     case rest =>
      clear HC14
      try clear c1
      try clear c2
      try clear p2
      try clear c3
      try clear c4
      try clear c6
      try clear c6b0
      try clear c7
      try clear c8
      try clear c8b0
      try clear c8b1
      try clear c15
      try clear c15b0
      try clear p2
      obtain ⟨kq, x54_13, rfl, HA, HJ13, ⟨mc13, rfl⟩⟩ := hcut
      cases kq with
      | zero => exact absurd HA.out (by simp [accountingref02_MulDiv.j1])
      | succ kj13 =>
       have H := HA.out
       clear HA
       simp only [accountingref02_MulDiv.j1] at H
       by_cases c16 : x54_13 = true
       ·subst c16
        have H1 : (some (0, 4)) = some (r1, r2) := by rw [if_pos rfl] at H; exact H
        clear H
        have H := H1
        clear H1
        simp only [Option.some.injEq, Prod.mk.injEq] at H
        obtain ⟨rfl, rfl⟩ := H
        go_wp2
        go_ret2
        exact ⟨by first | rfl | (simp; done) | (simp [*]; done), by repeat (first | exact Drawn0.refl _ | apply Drawn0.step)⟩
       ·replace c16 := Bool.eq_false_iff.mpr c16
        subst c16
        have H1 : ((accountingref02_mag.f a2).bind fun t109 => ((accountingref02_away.f a3 (((decide (a0 < 0)) != (decide (a1 < 0))) != (decide (a2 < 0))) ((Int.tmod t107 2) == 1) t108 t109).bind fun t110 => (if t110 = true then (accountingref02_MulDiv.j2 kj13 (IntKind.u64.wrap (t107 + 1)) (((decide (a0 < 0)) != (decide (a1 < 0))) != (decide (a2 < 0)))) else (accountingref02_MulDiv.j2 kj13 t107 (((decide (a0 < 0)) != (decide (a1 < 0))) != (decide (a2 < 0))))))) = some (r1, r2) := by rw [if_neg (show ¬ (false = true) by decide)] at H; exact H
        clear H
        have H := H1
        clear H1
        replace H := Option.bind_eq_some_iff.mp H
        obtain ⟨t109, A170, H⟩ := H
        replace H : ((accountingref02_away.f a3 (((decide (a0 < 0)) != (decide (a1 < 0))) != (decide (a2 < 0))) ((Int.tmod t107 2) == 1) t108 t109).bind fun t110 => (if t110 = true then (accountingref02_MulDiv.j2 kj13 (IntKind.u64.wrap (t107 + 1)) (((decide (a0 < 0)) != (decide (a1 < 0))) != (decide (a2 < 0)))) else (accountingref02_MulDiv.j2 kj13 t107 (((decide (a0 < 0)) != (decide (a1 < 0))) != (decide (a2 < 0)))))) = some (r1, r2) := H
        have A17 := Aside0.mk A170
        clear A170
        replace H := Option.bind_eq_some_iff.mp H
        obtain ⟨t110, A180, H⟩ := H
        replace H : (if t110 = true then (accountingref02_MulDiv.j2 kj13 (IntKind.u64.wrap (t107 + 1)) (((decide (a0 < 0)) != (decide (a1 < 0))) != (decide (a2 < 0)))) else (accountingref02_MulDiv.j2 kj13 t107 (((decide (a0 < 0)) != (decide (a1 < 0))) != (decide (a2 < 0))))) = some (r1, r2) := H
        have A18 := Aside0.mk A180
        clear A180
        have HC19 := Aside0.mk H
        clear H
        go_upto_if 63 with (first | ((with_reducible refine gate_callee (f := 37) rfl ?_); refine goesL_ (some 62) rfl rfl Try.func37 (by kernel_rfl) rfl #[.int .i64 a2] rfl (by (try simp only [List.map_toArray, List.map_cons, List.map_nil]); first | done | rfl | (simp only [List.length_drop, List.length_take]; rfl)) ?_; (with_reducible refine (accountingref02_mag.calls a2 t109 _ A17.out).mono ?_); rintro e w' ⟨rfl, ⟨nd, rfl⟩⟩; refine ⟨_, rfl, ?_⟩) | ((with_reducible refine gate_callee (f := 39) rfl ?_); refine goesL_ (some 63) rfl rfl Try.func39 (by kernel_rfl) rfl #[.int .i64 a3, .bool (((decide (a0 < 0)) != (decide (a1 < 0))) != (decide (a2 < 0))), .bool ((Int.tmod t107 2) == 1), .int .u64 t108, .int .u64 t109] rfl (by (try simp only [List.map_toArray, List.map_cons, List.map_nil]); first | done | rfl | (simp only [List.length_drop, List.length_take]; rfl)) ?_; (with_reducible refine (accountingref02_away.calls a3 (((decide (a0 < 0)) != (decide (a1 < 0))) != (decide (a2 < 0))) ((Int.tmod t107 2) == 1) t108 t109 t110 _ A18.out).mono ?_); rintro e w' ⟨rfl, ⟨nd, rfl⟩⟩; refine ⟨_, rfl, ?_⟩))
        (try simp only [Act.put, List.setIfInBounds_toArray, List.set_cons_zero, List.set_cons_succ])
        go_cut [13] (fun v13 wc => ∃ (kq : Nat) (x13_18 : Int), v13 = .int .u64 x13_18 ∧ Aside0 (accountingref02_MulDiv.j2 kq x13_18 (((decide (a0 < 0)) != (decide (a1 < 0))) != (decide (a2 < 0))) = some (r1, r2)) ∧ Aside0 (kq ≤ kj13) ∧ Drawn0 w wc)
        case first =>
         have H := HC19.out
         clear HC19
         by_cases c20 : t110 = true
         ·subst c20
          have H1 : (accountingref02_MulDiv.j2 kj13 (IntKind.u64.wrap (t107 + 1)) (((decide (a0 < 0)) != (decide (a1 < 0))) != (decide (a2 < 0)))) = some (r1, r2) := by rw [if_pos rfl] at H; exact H
          clear H
          have H := H1
          clear H1
          have H' := Aside0.mk H
          clear H
          go_wp2
          go_meet
          case rel => exact ⟨_, (IntKind.u64.wrap (t107 + 1)), (by first | rfl | (simp; done) | (simp [*]; done)), H', ⟨by have := HJ4.out; have := HJ13.out; first | omega | exact Nat.le_refl _⟩, by repeat (first | exact Drawn0.refl _ | apply Drawn0.step)⟩
         ·replace c20 := Bool.eq_false_iff.mpr c20
          subst c20
          have H1 : (accountingref02_MulDiv.j2 kj13 t107 (((decide (a0 < 0)) != (decide (a1 < 0))) != (decide (a2 < 0)))) = some (r1, r2) := by rw [if_neg (show ¬ (false = true) by decide)] at H; exact H
          clear H
          have H := H1
          clear H1
          have H' := Aside0.mk H
          clear H
          go_wp2
          go_meet
          case rel => exact ⟨_, (t107), (by first | rfl | (simp; done) | (simp [*]; done)), H', ⟨by have := HJ4.out; have := HJ13.out; first | omega | exact Nat.le_refl _⟩, by repeat (first | exact Drawn0.refl _ | apply Drawn0.step)⟩
        case rest =>
         clear HC19
         try clear c1
         try clear c2
         try clear p2
         try clear c3
         try clear c4
         try clear c6
         try clear c6b0
         try clear c7
         try clear c8
         try clear c8b0
         try clear c8b1
         try clear c13
         try clear c15
         try clear c15b0
         try clear c16
         try clear c20
         try clear p2
         obtain ⟨kq, x13_18, rfl, HA, HJ18, ⟨mc18, rfl⟩⟩ := hcut
         cases kq with
         | zero => exact absurd HA.out (by simp [accountingref02_MulDiv.j2])
         | succ kj18 =>
          have H := HA.out
          clear HA
          simp only [accountingref02_MulDiv.j2] at H
          have HC21 := Aside0.mk H
          clear H
          go_upto_region 12 with (fail)
          go_cut [75] (fun v75 wc => ∃ (kq : Nat) (x75_20 : Bool), v75 = .bool x75_20 ∧ Aside0 (accountingref02_MulDiv.j3 kq x13_18 (((decide (a0 < 0)) != (decide (a1 < 0))) != (decide (a2 < 0))) x75_20 = some (r1, r2)) ∧ Aside0 (kq ≤ kj18) ∧ Drawn0 w wc)
          case first =>
           have H := HC21.out
           clear HC21
           by_cases c22 : x13_18 > 9223372036854775808
           ·rw [if_pos c22] at H
            have c22b0 : decide (9223372036854775808 < x13_18) = true := decide_eq_true c22
            clear c22
            (first | rw [c22b0] | (simp only [i64_w, i32_w]; rw [c22b0]) | skip)
            have H' := Aside0.mk H
            clear H
            go_wp2
            go_meet
            case rel => exact ⟨_, (true), (by first | rfl | (simp; done) | (simp [*]; done)), H', ⟨by have := HJ4.out; have := HJ13.out; have := HJ18.out; first | omega | exact Nat.le_refl _⟩, by repeat (first | exact Drawn0.refl _ | apply Drawn0.step)⟩
           ·rw [if_neg c22] at H
            have c22b0 : decide (9223372036854775808 < x13_18) = false := decide_eq_false c22
            clear c22
            (first | rw [c22b0] | (simp only [i64_w, i32_w]; rw [c22b0]) | skip)
            by_cases c23 : x13_18 = 9223372036854775808
            ·rw [if_pos c23] at H
             have c23b0 : (x13_18 == 9223372036854775808) = true := beq_iff_eq.mpr c23
             have c23b1 : (x13_18 != 9223372036854775808) = false := bne_eq_false_iff_eq.mpr c23
             clear c23
             have H' := Aside0.mk H
             clear H
             go_wp2
             go_meet
             case rel => exact ⟨_, (!(((decide (a0 < 0)) != (decide (a1 < 0))) != (decide (a2 < 0)))), (by first | rfl | (simp; done) | (simp [*]; done) | (congr 1; generalize decide (a0 < 0) = q0_; generalize decide (a1 < 0) = q1_; generalize decide (a2 < 0) = q2_; revert q0_ q1_ q2_; decide)), H', ⟨by have := HJ4.out; have := HJ13.out; have := HJ18.out; first | omega | exact Nat.le_refl _⟩, by repeat (first | exact Drawn0.refl _ | apply Drawn0.step)⟩
            ·rw [if_neg c23] at H
             have c23b0 : (x13_18 == 9223372036854775808) = false := beq_eq_false_iff_ne.mpr c23
             have c23b1 : (x13_18 != 9223372036854775808) = true := bne_iff_ne.mpr c23
             have H' := Aside0.mk H
             clear H
             go_wp2
             go_meet
             case rel => exact ⟨_, (false), (by first | rfl | (simp; done) | (simp [*]; done)), H', ⟨by have := HJ4.out; have := HJ13.out; have := HJ18.out; first | omega | exact Nat.le_refl _⟩, by repeat (first | exact Drawn0.refl _ | apply Drawn0.step)⟩
          case rest =>
           clear HC21
           try clear c1
           try clear c2
           try clear p2
           try clear c3
           try clear c4
           try clear c6
           try clear c6b0
           try clear c7
           try clear c8
           try clear c8b0
           try clear c8b1
           try clear c13
           try clear c15
           try clear c15b0
           try clear c16
           try clear c18
           try clear c20
           try clear c22
           try clear c22b0
           try clear c23
           try clear c23b0
           try clear c23b1
           try clear p2
           obtain ⟨kq, x75_20, rfl, HA, HJ20, ⟨mc20, rfl⟩⟩ := hcut
           cases kq with
           | zero => exact absurd HA.out (by simp [accountingref02_MulDiv.j3])
           | succ kj20 =>
            have H := HA.out
            clear HA
            simp only [accountingref02_MulDiv.j3] at H
            by_cases c24 : x75_20 = true
            ·subst c24
             have H1 : (some (0, 4)) = some (r1, r2) := by rw [if_pos rfl] at H; exact H
             clear H
             have H := H1
             clear H1
             simp only [Option.some.injEq, Prod.mk.injEq] at H
             obtain ⟨rfl, rfl⟩ := H
             go_wp2
             go_ret2
             exact ⟨by first | rfl | (simp; done) | (simp [*]; done), by repeat (first | exact Drawn0.refl _ | apply Drawn0.step)⟩
            ·replace c24 := Bool.eq_false_iff.mpr c24
             subst c24
             have H1 : (if x13_18 = 9223372036854775808 then (some ((-9223372036854775808), 0)) else (if (((decide (a0 < 0)) != (decide (a1 < 0))) != (decide (a2 < 0))) = true then (some (wrap64 (-(wrap64 (x13_18))), 0)) else (some (wrap64 (x13_18), 0)))) = some (r1, r2) := by rw [if_neg (show ¬ (false = true) by decide)] at H; exact H
             clear H
             have H := H1
             clear H1
             by_cases c25 : x13_18 = 9223372036854775808
             ·rw [if_pos c25] at H
              have c25b0 : (x13_18 == 9223372036854775808) = true := beq_iff_eq.mpr c25
              have c25b1 : (x13_18 != 9223372036854775808) = false := bne_eq_false_iff_eq.mpr c25
              clear c25
              simp only [Option.some.injEq, Prod.mk.injEq] at H
              obtain ⟨rfl, rfl⟩ := H
              go_wp2
              go_ret2
              exact ⟨by first | rfl | (simp; done) | (simp [*]; done), by repeat (first | exact Drawn0.refl _ | apply Drawn0.step)⟩
             ·rw [if_neg c25] at H
              have c25b0 : (x13_18 == 9223372036854775808) = false := beq_eq_false_iff_ne.mpr c25
              have c25b1 : (x13_18 != 9223372036854775808) = true := bne_iff_ne.mpr c25
              by_cases c26 : (((decide (a0 < 0)) != (decide (a1 < 0))) != (decide (a2 < 0))) = true
              ·rw [if_pos c26] at H
               have c26b0 : (((decide (a0 < 0)) != (decide (a1 < 0))) != (decide (a2 < 0))) = true := c26
               have c26n0 : (!(!decide (a0 < 0) == decide (a1 < 0)) == decide (a2 < 0)) = true := by (have z_ := c26b0; revert z_; generalize decide (a0 < 0) = q0_; generalize decide (a1 < 0) = q1_; generalize decide (a2 < 0) = q2_; revert q0_ q1_ q2_; decide)
               (try (have c26b1 : decide (((decide (a0 < 0)) != (decide (a1 < 0))) = (decide (a2 < 0))) = false := by simpa using c26))
               (try (have c26b2 : (((decide (a0 < 0)) != (decide (a1 < 0))) == (decide (a2 < 0))) = false := by simpa using c26))
               (try (have c26b3 : ¬ (((decide (a0 < 0)) != (decide (a1 < 0))) = (decide (a2 < 0))) := by simpa using c26))
               clear c26
               simp only [Option.some.injEq, Prod.mk.injEq] at H
               obtain ⟨rfl, rfl⟩ := H
               go_wp2
               all_goals (try exact Bool.noConfusion (c26n0.symm.trans (by assumption : (!(!decide (a0 < 0) == decide (a1 < 0)) == decide (a2 < 0)) = false)))
               go_ret2
               exact ⟨by first | rfl | (simp; done) | (simp [*]; done), by repeat (first | exact Drawn0.refl _ | apply Drawn0.step)⟩
              ·rw [if_neg c26] at H
               have c26b0 : (((decide (a0 < 0)) != (decide (a1 < 0))) != (decide (a2 < 0))) = false := by simpa using c26
               have c26n0 : (!(!decide (a0 < 0) == decide (a1 < 0)) == decide (a2 < 0)) = false := by (have z_ := c26b0; revert z_; generalize decide (a0 < 0) = q0_; generalize decide (a1 < 0) = q1_; generalize decide (a2 < 0) = q2_; revert q0_ q1_ q2_; decide)
               (try (have c26b1 : decide (((decide (a0 < 0)) != (decide (a1 < 0))) = (decide (a2 < 0))) = true := by simpa using c26))
               (try (have c26b2 : (((decide (a0 < 0)) != (decide (a1 < 0))) == (decide (a2 < 0))) = true := by simpa using c26))
               clear c26
               simp only [Option.some.injEq, Prod.mk.injEq] at H
               obtain ⟨rfl, rfl⟩ := H
               go_wp2
               all_goals (try exact Bool.noConfusion (c26n0.symm.trans (by assumption : (!(!decide (a0 < 0) == decide (a1 < 0)) == decide (a2 < 0)) = true)))
               go_ret2
               exact ⟨by first | rfl | (simp; done) | (simp [*]; done), by repeat (first | exact Drawn0.refl _ | apply Drawn0.step)⟩

end Go.Proofs.Ytikglhfeookhaaa.M
end
section
-- Written by mprint.py (a program of this session) over the kit's print.
namespace Go.Proofs.Ytikglhfeookhaaa.M
open Go.RowKit Go.Proofs.YtikglhfeookhaaaW.PrintWords Go.Proofs.YtikglhfeookhaaaW.PrintLast Go.Proofs.YtikglhfeookhaaaW.PrintMore
attribute [local go_sem] max2_int min2_int max_two min_two max_three min_three max_four min_four   -- for this text's walks alone
set_option linter.unusedVariables false
set_option linter.unusedSimpArgs false

/-! ### accountingref02_Mod: function 25 -/
def accountingref02_Mod.f (k : Nat) (a0 : Int) (a1 : Int) (a2 : Int) : Option (Int × Int) := if a2 = 0 then (some (0, 2)) else ((accountingref02_mag.f a0).bind fun t101 => ((accountingref02_mag.f a1).bind fun t102 => ((accountingref02_wide.f t101 t102).bind fun bt103 => ((accountingref02_mag.f a2).bind fun t105 => ((accountingref02_divide.f k bt103.1 bt103.2 t105).bind fun bt106 => (if bt106.2.2 > 0 then (if ((decide (a0 < 0)) != (decide (a1 < 0))) = true then ((accountingref02_mag.f a2).bind fun t109 => (some (wrap64 (IntKind.u64.wrap (t109 - bt106.2.2)), 0))) else (some (wrap64 (bt106.2.2), 0))) else (some (wrap64 (bt106.2.2), 0))))))))
theorem accountingref02_Mod.mono : ∀ a0 a1 a2 k, LeO (accountingref02_Mod.f k a0 a1 a2) (accountingref02_Mod.f (k + 1) a0 a1 a2) := by
 intro a0 a1 a2 k
 unfold accountingref02_Mod.f
 repeat' first
   | (with_reducible exact accountingref02_divide.mono _ _ _ _)
   | (with_reducible exact LeO.refl _)
   | (with_reducible exact LeO.none _)
   | (with_reducible refine LeO.ite ?_ ?_)
   | (with_reducible refine LeO.bind ?_ (fun _ => ?_))
   | exact accountingref02_divide.mono _ _ _ _
   | exact LeO.none _
   | refine LeO.ite ?_ ?_
   | refine LeO.bind ?_ (fun _ => ?_)
set_option maxHeartbeats 8000000 in
set_option maxRecDepth 100000 in
theorem accountingref02_Mod.calls (k : Nat) (a0 : Int) (a1 : Int) (a2 : Int) (r1 : Int) (r2 : Int) (w : World) (h : accountingref02_Mod.f k a0 a1 a2 = some (r1, r2)) :
    Calls Try.prog 25 #[.int .i64 a0, .int .i64 a1, .int .i64 a2] w fun e w' => e = .returned (.tuple #[.int .i64 r1, .int .i64 r2]) ∧ Drawn0 w w' := by
 have H : (if a2 = 0 then (some (0, 2)) else ((accountingref02_mag.f a0).bind fun t101 => ((accountingref02_mag.f a1).bind fun t102 => ((accountingref02_wide.f t101 t102).bind fun bt103 => ((accountingref02_mag.f a2).bind fun t105 => ((accountingref02_divide.f k bt103.1 bt103.2 t105).bind fun bt106 => (if bt106.2.2 > 0 then (if ((decide (a0 < 0)) != (decide (a1 < 0))) = true then ((accountingref02_mag.f a2).bind fun t109 => (some (wrap64 (IntKind.u64.wrap (t109 - bt106.2.2)), 0))) else (some (wrap64 (bt106.2.2), 0))) else (some (wrap64 (bt106.2.2), 0))))))))) = some (r1, r2) := h
 clear h
 by_cases c4 : a2 = 0
 ·rw [if_pos c4] at H
  have c4b0 : (a2 == 0) = true := beq_iff_eq.mpr c4
  have c4b1 : (a2 != 0) = false := bne_eq_false_iff_eq.mpr c4
  clear c4
  simp only [Option.some.injEq, Prod.mk.injEq] at H
  obtain ⟨rfl, rfl⟩ := H
  go_enter Try.func25, Try.ntmps25
  go_wp2
  go_ret2
  exact ⟨by first | rfl | (simp; done) | (simp [*]; done), by repeat (first | exact Drawn0.refl _ | apply Drawn0.step)⟩
 ·rw [if_neg c4] at H
  have c4b0 : (a2 == 0) = false := beq_eq_false_iff_ne.mpr c4
  have c4b1 : (a2 != 0) = true := bne_iff_ne.mpr c4
  replace H := Option.bind_eq_some_iff.mp H
  obtain ⟨t101, A50, H⟩ := H
  replace H : ((accountingref02_mag.f a1).bind fun t102 => ((accountingref02_wide.f t101 t102).bind fun bt103 => ((accountingref02_mag.f a2).bind fun t105 => ((accountingref02_divide.f k bt103.1 bt103.2 t105).bind fun bt106 => (if bt106.2.2 > 0 then (if ((decide (a0 < 0)) != (decide (a1 < 0))) = true then ((accountingref02_mag.f a2).bind fun t109 => (some (wrap64 (IntKind.u64.wrap (t109 - bt106.2.2)), 0))) else (some (wrap64 (bt106.2.2), 0))) else (some (wrap64 (bt106.2.2), 0))))))) = some (r1, r2) := H
  have A5 := Aside0.mk A50
  clear A50
  replace H := Option.bind_eq_some_iff.mp H
  obtain ⟨t102, A60, H⟩ := H
  replace H : ((accountingref02_wide.f t101 t102).bind fun bt103 => ((accountingref02_mag.f a2).bind fun t105 => ((accountingref02_divide.f k bt103.1 bt103.2 t105).bind fun bt106 => (if bt106.2.2 > 0 then (if ((decide (a0 < 0)) != (decide (a1 < 0))) = true then ((accountingref02_mag.f a2).bind fun t109 => (some (wrap64 (IntKind.u64.wrap (t109 - bt106.2.2)), 0))) else (some (wrap64 (bt106.2.2), 0))) else (some (wrap64 (bt106.2.2), 0)))))) = some (r1, r2) := H
  have A6 := Aside0.mk A60
  clear A60
  replace H := Option.bind_eq_some_iff.mp H
  obtain ⟨⟨t103, t104⟩, A70, H⟩ := H
  replace H : ((accountingref02_mag.f a2).bind fun t105 => ((accountingref02_divide.f k t103 t104 t105).bind fun bt106 => (if bt106.2.2 > 0 then (if ((decide (a0 < 0)) != (decide (a1 < 0))) = true then ((accountingref02_mag.f a2).bind fun t109 => (some (wrap64 (IntKind.u64.wrap (t109 - bt106.2.2)), 0))) else (some (wrap64 (bt106.2.2), 0))) else (some (wrap64 (bt106.2.2), 0))))) = some (r1, r2) := H
  have A7 := Aside0.mk A70
  clear A70
  replace H := Option.bind_eq_some_iff.mp H
  obtain ⟨t105, A80, H⟩ := H
  replace H : ((accountingref02_divide.f k t103 t104 t105).bind fun bt106 => (if bt106.2.2 > 0 then (if ((decide (a0 < 0)) != (decide (a1 < 0))) = true then ((accountingref02_mag.f a2).bind fun t109 => (some (wrap64 (IntKind.u64.wrap (t109 - bt106.2.2)), 0))) else (some (wrap64 (bt106.2.2), 0))) else (some (wrap64 (bt106.2.2), 0)))) = some (r1, r2) := H
  have A8 := Aside0.mk A80
  clear A80
  replace H := Option.bind_eq_some_iff.mp H
  obtain ⟨⟨t106, t107, t108⟩, A90, H⟩ := H
  replace H : (if t108 > 0 then (if ((decide (a0 < 0)) != (decide (a1 < 0))) = true then ((accountingref02_mag.f a2).bind fun t109 => (some (wrap64 (IntKind.u64.wrap (t109 - t108)), 0))) else (some (wrap64 (t108), 0))) else (some (wrap64 (t108), 0))) = some (r1, r2) := H
  have A9 := Aside0.mk A90
  clear A90
  by_cases c10 : t108 > 0
  ·rw [if_pos c10] at H
   have c10b0 : decide (0 < t108) = true := decide_eq_true c10
   clear c10
   by_cases c11 : ((decide (a0 < 0)) != (decide (a1 < 0))) = true
   ·rw [if_pos c11] at H
    have c11b0 : ((decide (a0 < 0)) != (decide (a1 < 0))) = true := c11
    (try (have c11b1 : decide ((decide (a0 < 0)) = (decide (a1 < 0))) = false := by simpa using c11))
    (try (have c11b2 : ((decide (a0 < 0)) == (decide (a1 < 0))) = false := by simpa using c11))
    (try (have c11b3 : ¬ ((decide (a0 < 0)) = (decide (a1 < 0))) := by simpa using c11))
    clear c11
    replace H := Option.bind_eq_some_iff.mp H
    obtain ⟨t109, A120, H⟩ := H
    replace H : (some (wrap64 (IntKind.u64.wrap (t109 - t108)), 0)) = some (r1, r2) := H
    have A12 := Aside0.mk A120
    clear A120
    simp only [Option.some.injEq, Prod.mk.injEq] at H
    obtain ⟨rfl, rfl⟩ := H
    go_enter Try.func25, Try.ntmps25
    go_wp2_with (first | ((with_reducible refine gate_callee (f := 37) rfl ?_); refine goesL_ (some 17) rfl rfl Try.func37 (by kernel_rfl) rfl #[.int .i64 a0] rfl (by (try simp only [List.map_toArray, List.map_cons, List.map_nil]); first | done | rfl | (simp only [List.length_drop, List.length_take]; rfl)) ?_; (with_reducible refine (accountingref02_mag.calls a0 t101 _ A5.out).mono ?_); rintro e w' ⟨rfl, ⟨nd, rfl⟩⟩; refine ⟨_, rfl, ?_⟩) | ((with_reducible refine gate_callee (f := 37) rfl ?_); refine goesL_ (some 19) rfl rfl Try.func37 (by kernel_rfl) rfl #[.int .i64 a1] rfl (by (try simp only [List.map_toArray, List.map_cons, List.map_nil]); first | done | rfl | (simp only [List.length_drop, List.length_take]; rfl)) ?_; (with_reducible refine (accountingref02_mag.calls a1 t102 _ A6.out).mono ?_); rintro e w' ⟨rfl, ⟨nd, rfl⟩⟩; refine ⟨_, rfl, ?_⟩) | ((with_reducible refine gate_callee (f := 36) rfl ?_); refine goesL_ (some 20) rfl rfl Try.func36 (by kernel_rfl) rfl #[.int .u64 t101, .int .u64 t102] rfl (by (try simp only [List.map_toArray, List.map_cons, List.map_nil]); first | done | rfl | (simp only [List.length_drop, List.length_take]; rfl)) ?_; (with_reducible refine (accountingref02_wide.calls t101 t102 t103 t104 _ A7.out).mono ?_); rintro e w' ⟨rfl, ⟨nd, rfl⟩⟩; refine ⟨_, rfl, ?_⟩) | ((with_reducible refine gate_callee (f := 37) rfl ?_); refine goesL_ (some 27) rfl rfl Try.func37 (by kernel_rfl) rfl #[.int .i64 a2] rfl (by (try simp only [List.map_toArray, List.map_cons, List.map_nil]); first | done | rfl | (simp only [List.length_drop, List.length_take]; rfl)) ?_; (with_reducible refine (accountingref02_mag.calls a2 t105 _ A8.out).mono ?_); rintro e w' ⟨rfl, ⟨nd, rfl⟩⟩; refine ⟨_, rfl, ?_⟩) | ((with_reducible refine gate_callee (f := 38) rfl ?_); refine goesL_ (some 28) rfl rfl Try.func38 (by kernel_rfl) rfl #[.int .u64 t103, .int .u64 t104, .int .u64 t105] rfl (by (try simp only [List.map_toArray, List.map_cons, List.map_nil]); first | done | rfl | (simp only [List.length_drop, List.length_take]; rfl)) ?_; (with_reducible refine (accountingref02_divide.calls k t103 t104 t105 t106 t107 t108 _ A9.out).mono ?_); rintro e w' ⟨rfl, ⟨nd, rfl⟩⟩; refine ⟨_, rfl, ?_⟩) | ((with_reducible refine gate_callee (f := 37) rfl ?_); refine goesL_ (some 42) rfl rfl Try.func37 (by kernel_rfl) rfl #[.int .i64 a2] rfl (by (try simp only [List.map_toArray, List.map_cons, List.map_nil]); first | done | rfl | (simp only [List.length_drop, List.length_take]; rfl)) ?_; (with_reducible refine (accountingref02_mag.calls a2 t109 _ A12.out).mono ?_); rintro e w' ⟨rfl, ⟨nd, rfl⟩⟩; refine ⟨_, rfl, ?_⟩))
    go_ret2
    exact ⟨by first | rfl | (simp; done) | (simp [*]; done), by repeat (first | exact Drawn0.refl _ | apply Drawn0.step)⟩
   ·rw [if_neg c11] at H
    have c11b0 : ((decide (a0 < 0)) != (decide (a1 < 0))) = false := by simpa using c11
    (try (have c11b1 : decide ((decide (a0 < 0)) = (decide (a1 < 0))) = true := by simpa using c11))
    (try (have c11b2 : ((decide (a0 < 0)) == (decide (a1 < 0))) = true := by simpa using c11))
    clear c11
    simp only [Option.some.injEq, Prod.mk.injEq] at H
    obtain ⟨rfl, rfl⟩ := H
    go_enter Try.func25, Try.ntmps25
    go_wp2_with (first | ((with_reducible refine gate_callee (f := 37) rfl ?_); refine goesL_ (some 17) rfl rfl Try.func37 (by kernel_rfl) rfl #[.int .i64 a0] rfl (by (try simp only [List.map_toArray, List.map_cons, List.map_nil]); first | done | rfl | (simp only [List.length_drop, List.length_take]; rfl)) ?_; (with_reducible refine (accountingref02_mag.calls a0 t101 _ A5.out).mono ?_); rintro e w' ⟨rfl, ⟨nd, rfl⟩⟩; refine ⟨_, rfl, ?_⟩) | ((with_reducible refine gate_callee (f := 37) rfl ?_); refine goesL_ (some 19) rfl rfl Try.func37 (by kernel_rfl) rfl #[.int .i64 a1] rfl (by (try simp only [List.map_toArray, List.map_cons, List.map_nil]); first | done | rfl | (simp only [List.length_drop, List.length_take]; rfl)) ?_; (with_reducible refine (accountingref02_mag.calls a1 t102 _ A6.out).mono ?_); rintro e w' ⟨rfl, ⟨nd, rfl⟩⟩; refine ⟨_, rfl, ?_⟩) | ((with_reducible refine gate_callee (f := 36) rfl ?_); refine goesL_ (some 20) rfl rfl Try.func36 (by kernel_rfl) rfl #[.int .u64 t101, .int .u64 t102] rfl (by (try simp only [List.map_toArray, List.map_cons, List.map_nil]); first | done | rfl | (simp only [List.length_drop, List.length_take]; rfl)) ?_; (with_reducible refine (accountingref02_wide.calls t101 t102 t103 t104 _ A7.out).mono ?_); rintro e w' ⟨rfl, ⟨nd, rfl⟩⟩; refine ⟨_, rfl, ?_⟩) | ((with_reducible refine gate_callee (f := 37) rfl ?_); refine goesL_ (some 27) rfl rfl Try.func37 (by kernel_rfl) rfl #[.int .i64 a2] rfl (by (try simp only [List.map_toArray, List.map_cons, List.map_nil]); first | done | rfl | (simp only [List.length_drop, List.length_take]; rfl)) ?_; (with_reducible refine (accountingref02_mag.calls a2 t105 _ A8.out).mono ?_); rintro e w' ⟨rfl, ⟨nd, rfl⟩⟩; refine ⟨_, rfl, ?_⟩) | ((with_reducible refine gate_callee (f := 38) rfl ?_); refine goesL_ (some 28) rfl rfl Try.func38 (by kernel_rfl) rfl #[.int .u64 t103, .int .u64 t104, .int .u64 t105] rfl (by (try simp only [List.map_toArray, List.map_cons, List.map_nil]); first | done | rfl | (simp only [List.length_drop, List.length_take]; rfl)) ?_; (with_reducible refine (accountingref02_divide.calls k t103 t104 t105 t106 t107 t108 _ A9.out).mono ?_); rintro e w' ⟨rfl, ⟨nd, rfl⟩⟩; refine ⟨_, rfl, ?_⟩))
    go_ret2
    exact ⟨by first | rfl | (simp; done) | (simp [*]; done), by repeat (first | exact Drawn0.refl _ | apply Drawn0.step)⟩
  ·rw [if_neg c10] at H
   have c10b0 : decide (0 < t108) = false := decide_eq_false c10
   clear c10
   simp only [Option.some.injEq, Prod.mk.injEq] at H
   obtain ⟨rfl, rfl⟩ := H
   go_enter Try.func25, Try.ntmps25
   go_wp2_with (first | ((with_reducible refine gate_callee (f := 37) rfl ?_); refine goesL_ (some 17) rfl rfl Try.func37 (by kernel_rfl) rfl #[.int .i64 a0] rfl (by (try simp only [List.map_toArray, List.map_cons, List.map_nil]); first | done | rfl | (simp only [List.length_drop, List.length_take]; rfl)) ?_; (with_reducible refine (accountingref02_mag.calls a0 t101 _ A5.out).mono ?_); rintro e w' ⟨rfl, ⟨nd, rfl⟩⟩; refine ⟨_, rfl, ?_⟩) | ((with_reducible refine gate_callee (f := 37) rfl ?_); refine goesL_ (some 19) rfl rfl Try.func37 (by kernel_rfl) rfl #[.int .i64 a1] rfl (by (try simp only [List.map_toArray, List.map_cons, List.map_nil]); first | done | rfl | (simp only [List.length_drop, List.length_take]; rfl)) ?_; (with_reducible refine (accountingref02_mag.calls a1 t102 _ A6.out).mono ?_); rintro e w' ⟨rfl, ⟨nd, rfl⟩⟩; refine ⟨_, rfl, ?_⟩) | ((with_reducible refine gate_callee (f := 36) rfl ?_); refine goesL_ (some 20) rfl rfl Try.func36 (by kernel_rfl) rfl #[.int .u64 t101, .int .u64 t102] rfl (by (try simp only [List.map_toArray, List.map_cons, List.map_nil]); first | done | rfl | (simp only [List.length_drop, List.length_take]; rfl)) ?_; (with_reducible refine (accountingref02_wide.calls t101 t102 t103 t104 _ A7.out).mono ?_); rintro e w' ⟨rfl, ⟨nd, rfl⟩⟩; refine ⟨_, rfl, ?_⟩) | ((with_reducible refine gate_callee (f := 37) rfl ?_); refine goesL_ (some 27) rfl rfl Try.func37 (by kernel_rfl) rfl #[.int .i64 a2] rfl (by (try simp only [List.map_toArray, List.map_cons, List.map_nil]); first | done | rfl | (simp only [List.length_drop, List.length_take]; rfl)) ?_; (with_reducible refine (accountingref02_mag.calls a2 t105 _ A8.out).mono ?_); rintro e w' ⟨rfl, ⟨nd, rfl⟩⟩; refine ⟨_, rfl, ?_⟩) | ((with_reducible refine gate_callee (f := 38) rfl ?_); refine goesL_ (some 28) rfl rfl Try.func38 (by kernel_rfl) rfl #[.int .u64 t103, .int .u64 t104, .int .u64 t105] rfl (by (try simp only [List.map_toArray, List.map_cons, List.map_nil]); first | done | rfl | (simp only [List.length_drop, List.length_take]; rfl)) ?_; (with_reducible refine (accountingref02_divide.calls k t103 t104 t105 t106 t107 t108 _ A9.out).mono ?_); rintro e w' ⟨rfl, ⟨nd, rfl⟩⟩; refine ⟨_, rfl, ?_⟩))
   go_ret2
   exact ⟨by first | rfl | (simp; done) | (simp [*]; done), by repeat (first | exact Drawn0.refl _ | apply Drawn0.step)⟩

end Go.Proofs.Ytikglhfeookhaaa.M
end
section
/- The specification of muldiv comes to the same closed form, for all whole numbers of 64 bits. -/
namespace Go.Proofs.Ytikglhfeookhaaa.M
open Go.RowKit Go.Proofs.YtikglhfeookhaaaW.PrintWords Dv
set_option linter.unusedVariables false
set_option linter.unusedSimpArgs false
theorem accountingref02_mag.eq {a : Int} (h : inI a) : accountingref02_mag.f a = some (ab a) := by
  unfold inI at h
  unfold accountingref02_mag.f ab
  simp only [wrap_u64]
  split
  · congr 1; unfold wrap64; omega
  · congr 1; omega
theorem accountingref02_wide.eq {x y : Int} (h0 : 0 ≤ x) (h1 : x < 18446744073709551616) (h2 : 0 ≤ y) (h3 : y < 18446744073709551616) : accountingref02_wide.f x y = some (x * y / 18446744073709551616, x * y % 18446744073709551616) := by
  have e : x * y = (x / 4294967296) * (y / 4294967296) * 18446744073709551616 + ((x / 4294967296) * (y % 4294967296) + (x % 4294967296) * (y / 4294967296)) * 4294967296 + (x % 4294967296) * (y % 4294967296) := by
    have h1 : x = x / 4294967296 * 4294967296 + x % 4294967296 := by omega
    have h2 : y = y / 4294967296 * 4294967296 + y % 4294967296 := by omega
    generalize x / 4294967296 = p at *
    generalize y / 4294967296 = u at *
    generalize x % 4294967296 = q at *
    generalize y % 4294967296 = v at *
    subst h1 h2
    rw [Int.add_mul, Int.mul_add, Int.mul_add]
    have e1 : p * 4294967296 * (u * 4294967296) = p * u * 18446744073709551616 := by rw [Int.mul_assoc p, Int.mul_left_comm 4294967296 u, ← Int.mul_assoc p]; rfl
    have e2 : p * 4294967296 * v = p * v * 4294967296 := Int.mul_right_comm _ _ _
    have e3 : q * (u * 4294967296) = q * u * 4294967296 := (Int.mul_assoc _ _ _).symm
    rw [e1, e2, e3]; omega
  have p1 := prod_le (x / 4294967296) (y / 4294967296) (by omega) (by omega) (by omega) (by omega)
  have p2 := prod_le (x / 4294967296) (y % 4294967296) (by omega) (by omega) (by omega) (by omega)
  have p3 := prod_le (x % 4294967296) (y / 4294967296) (by omega) (by omega) (by omega) (by omega)
  have p4 := prod_le (x % 4294967296) (y % 4294967296) (by omega) (by omega) (by omega) (by omega)
  have td : ∀ z : Int, 0 ≤ z → Int.tdiv z 4294967296 = z / 4294967296 := fun z hz => Int.tdiv_eq_ediv_of_nonneg hz
  have tm : ∀ z : Int, 0 ≤ z → Int.tmod z 4294967296 = z % 4294967296 := fun z hz => Int.tmod_eq_emod_of_nonneg hz
  have uw : ∀ z : Int, 0 ≤ z → z < 18446744073709551616 → IntKind.u64.wrap z = z := fun z a b => u64w a b
  unfold accountingref02_wide.f
  rw [td x h0, td y h2, tm x h0, tm y h2, e]
  rw [uw (x / 4294967296) (by omega) (by omega), uw (y / 4294967296) (by omega) (by omega)]
  generalize x / 4294967296 = a1 at *
  generalize y / 4294967296 = b1 at *
  generalize x % 4294967296 = a0 at *
  generalize y % 4294967296 = b0 at *
  clear e
  rw [uw (a1 * b1) (by omega) (by omega), uw (a1 * b0) (by omega) (by omega), uw (a0 * b1) (by omega) (by omega), uw (a0 * b0) (by omega) (by omega)]
  generalize a1 * b1 = P1 at *
  generalize a1 * b0 = P2 at *
  generalize a0 * b1 = P3 at *
  generalize a0 * b0 = P4 at *
  rw [td P4 (by omega), tm P4 (by omega), uw (P4 / 4294967296) (by omega) (by omega), uw (P2 + P4 / 4294967296) (by omega) (by omega)]
  obtain ⟨M, hM⟩ : ∃ M, M = P2 + P4 / 4294967296 := ⟨_, rfl⟩
  rw [← hM, td M (by omega), tm M (by omega), uw (M / 4294967296) (by omega) (by omega), uw (P1 + M / 4294967296) (by omega) (by omega), uw (P3 + M % 4294967296) (by omega) (by omega)]
  obtain ⟨O, hO⟩ : ∃ O, O = P3 + M % 4294967296 := ⟨_, rfl⟩
  rw [← hO, td O (by omega), tm O (by omega), uw (O / 4294967296) (by omega) (by omega), uw (O % 4294967296 * 4294967296) (by omega) (by omega), uw (P1 + M / 4294967296 + O / 4294967296) (by omega) (by omega), uw (O % 4294967296 * 4294967296 + P4 % 4294967296) (by omega) (by omega)]
  congr 2
  · omega
  · omega
theorem accountingref02_divide.next (i : Nat) (h : i ≤ 127) : wrap64 ((i : Int) + 1) = ((i + 1 : Nat) : Int) := by rw [w64 (by omega) (by omega)]; omega
/-- What stands at the head of the division's loop: 'W' is the dividend, doubled i times. -/
theorem accountingref02_divide.go (P c : Int) (h0 : 0 ≤ P) (h1 : P < 340282366920938463463374607431768211456) (hc : 0 < c) (hc1 : c < 18446744073709551616) : ∀ (g i : Nat) (x0 x1 q0 q1 r : Int), i + g = 128 → 0 ≤ x0 → x0 < 18446744073709551616 → 0 ≤ x1 → x1 < 18446744073709551616 → 0 ≤ q0 → q0 < 18446744073709551616 → 0 ≤ q1 → q1 < 18446744073709551616 → 0 ≤ r → r < c →
    2 ^ i * P = 340282366920938463463374607431768211456 * (c * (q0 * 18446744073709551616 + q1) + r) + (x0 * 18446744073709551616 + x1) → q0 * 18446744073709551616 + q1 < 2 ^ i →
    Ev (fun k => accountingref02_divide.l0 k x0 x1 c q0 q1 r i) (P / c / 18446744073709551616, P / c % 18446744073709551616, P % c)
  | 0, i, x0, x1, q0, q1, r, hi, a0, a1, b0, b1, u0, u1, v0, v1, r0, r1, hW, hQ => by
    obtain rfl : i = 128 := by omega
    refine Ev.succ ?_
    have g : ¬ ((128 : Nat) : Int) < 128 := by omega
    simp only [accountingref02_divide.l0, if_neg g]
    have e : (2 : Int) ^ 128 = 340282366920938463463374607431768211456 := by decide
    rw [e] at hW hQ
    generalize hE : c * (q0 * 18446744073709551616 + q1) = E at hW
    have hP : P = r + c * (q0 * 18446744073709551616 + q1) := by rw [hE]; omega
    have d1 : P / c = q0 * 18446744073709551616 + q1 := by
      rw [hP, Int.add_mul_ediv_left _ _ (by omega), Int.ediv_eq_zero_of_lt r0 r1]; omega
    have d2 : P % c = r := by
      rw [hP, Int.add_mul_emod_self_left, Int.emod_eq_of_lt r0 r1]
    rw [d1, d2, show (q0 * 18446744073709551616 + q1) / 18446744073709551616 = q0 by omega, show (q0 * 18446744073709551616 + q1) % 18446744073709551616 = q1 by omega]
    exact Ev.const _
  | g + 1, i, x0, x1, q0, q1, r, hi, a0, a1, b0, b1, u0, u1, v0, v1, r0, r1, hW, hQ => by
    have hi' : i ≤ 127 := by omega
    have hp : (2 : Int) ^ i ≤ 2 ^ 127 := by
      have : (2 : Nat) ^ i ≤ 2 ^ 127 := Nat.pow_le_pow_right (by decide) hi'
      exact_mod_cast this
    have e127 : (2 : Int) ^ 127 = 170141183460469231731687303715884105728 := by decide
    rw [e127] at hp
    have hpow : (2 : Int) ^ (i + 1) = 2 * 2 ^ i := by rw [Int.pow_succ]; exact Int.mul_comm _ _
    have hW2 : (2 : Int) ^ (i + 1) * P = 2 * (2 ^ i * P) := by rw [hpow, Int.mul_assoc]
    generalize (2 : Int) ^ i * P = W at hW hW2
    generalize (2 : Int) ^ i = B at hQ hp hpow
    clear e127
    have td : ∀ z : Int, 0 ≤ z → Int.tdiv z 9223372036854775808 = z / 9223372036854775808 := fun z hz => Int.tdiv_eq_ediv_of_nonneg hz
    have uw : ∀ z : Int, 0 ≤ z → z < 18446744073709551616 → IntKind.u64.wrap z = z := fun z a b => u64w a b
    have em : ∀ z : Int, IntKind.u64.wrap z = z % 18446744073709551616 := wrap_u64
    have d0 := td x0 a0; have d1 := td x1 b0; have d2 := td q1 v0
    have n0 : IntKind.u64.wrap (IntKind.u64.wrap (2 * x0) + IntKind.u64.wrap (x1 / 9223372036854775808)) = (2 * x0) % 18446744073709551616 + x1 / 9223372036854775808 := by
      rw [em, em, em]; omega
    have n1 : IntKind.u64.wrap (2 * x1) = (2 * x1) % 18446744073709551616 := em _
    have n2 : IntKind.u64.wrap (IntKind.u64.wrap (2 * q0) + IntKind.u64.wrap (q1 / 9223372036854775808)) = 2 * q0 + q1 / 9223372036854775808 := by
      rw [em, em, em]; omega
    have n3 : IntKind.u64.wrap (2 * q1) = (2 * q1) % 18446744073709551616 := em _
    have n4 : IntKind.u64.wrap (IntKind.u64.wrap (2 * q1) + 1) = (2 * q1) % 18446744073709551616 + 1 := by rw [em, em]; omega
    have n5 : IntKind.u64.wrap (IntKind.u64.wrap (2 * r) + IntKind.u64.wrap (x0 / 9223372036854775808)) = (2 * r) % 18446744073709551616 + x0 / 9223372036854775808 := by
      rw [em, em, em]; omega
    have n6 : wrap64 ((i : Int) + 1) = ((i + 1 : Nat) : Int) := accountingref02_divide.next i hi'
    have gi : (i : Int) < 128 := Int.lt_of_le_of_lt (Int.ofNat_le.2 hi') (by decide)
    have hE : c * (q0 * 18446744073709551616 + q1) + c * (q0 * 18446744073709551616 + q1) = c * (2 * (q0 * 18446744073709551616 + q1)) := by rw [← Int.mul_add]; congr 1; omega
    have hE1 : c * (2 * (q0 * 18446744073709551616 + q1) + 1) = c * (2 * (q0 * 18446744073709551616 + q1)) + c := by rw [Int.mul_add, Int.mul_one]
    have f1 : (2 * q0 + q1 / 9223372036854775808) * 18446744073709551616 + (2 * q1) % 18446744073709551616 = 2 * (q0 * 18446744073709551616 + q1) := by omega
    have f2 : (2 * q0 + q1 / 9223372036854775808) * 18446744073709551616 + ((2 * q1) % 18446744073709551616 + 1) = 2 * (q0 * 18446744073709551616 + q1) + 1 := by omega
    have f3 : 2 * (x0 * 18446744073709551616 + x1) = 340282366920938463463374607431768211456 * (x0 / 9223372036854775808) + (((2 * x0) % 18446744073709551616 + x1 / 9223372036854775808) * 18446744073709551616 + (2 * x1) % 18446744073709551616) := by omega
    -- with a subtraction
    have S : ∀ r' : Int, r' = 2 * r + x0 / 9223372036854775808 - c → 0 ≤ r' → r' < c → Ev (fun k => accountingref02_divide.l0 k ((2 * x0) % 18446744073709551616 + x1 / 9223372036854775808) ((2 * x1) % 18446744073709551616) c (2 * q0 + q1 / 9223372036854775808) ((2 * q1) % 18446744073709551616 + 1) r' ((i + 1 : Nat) : Int)) (P / c / 18446744073709551616, P / c % 18446744073709551616, P % c) := by
      intro r' hr q2 q3
      refine accountingref02_divide.go P c h0 h1 hc hc1 g (i + 1) _ _ _ _ r' (by omega) (by omega) (by omega) (by omega) (by omega) (by omega) (by omega) (by omega) (by omega) q2 q3 ?_ ?_
      · rw [f2, hE1, hW2, hW]
        generalize c * (q0 * 18446744073709551616 + q1) = E at *
        generalize c * (2 * (q0 * 18446744073709551616 + q1)) = E2 at *
        omega
      · rw [f2, hpow]; omega
    have N : ∀ r' : Int, r' = 2 * r + x0 / 9223372036854775808 → 0 ≤ r' → r' < c → Ev (fun k => accountingref02_divide.l0 k ((2 * x0) % 18446744073709551616 + x1 / 9223372036854775808) ((2 * x1) % 18446744073709551616) c (2 * q0 + q1 / 9223372036854775808) ((2 * q1) % 18446744073709551616) r' ((i + 1 : Nat) : Int)) (P / c / 18446744073709551616, P / c % 18446744073709551616, P % c) := by
      intro r' hr q2 q3
      refine accountingref02_divide.go P c h0 h1 hc hc1 g (i + 1) _ _ _ _ r' (by omega) (by omega) (by omega) (by omega) (by omega) (by omega) (by omega) (by omega) (by omega) q2 q3 ?_ ?_
      · rw [f1, hW2, hW]
        generalize c * (q0 * 18446744073709551616 + q1) = E at *
        generalize c * (2 * (q0 * 18446744073709551616 + q1)) = E2 at *
        omega
      · rw [f1, hpow]; omega
    refine Ev.succ ?_
    simp only [accountingref02_divide.l0, if_pos gi, d0, d1, d2, n0, n1, n2, n4, n5, n6]
    by_cases hb : r ≥ 9223372036854775808
    · simp only [if_pos hb]
      rw [em]
      exact S _ (by omega) (by omega) (by omega)
    · by_cases hb2 : (2 * r) % 18446744073709551616 + x0 / 9223372036854775808 ≥ c
      · simp only [if_neg hb, if_pos hb2]
        rw [em]
        exact S _ (by omega) (by omega) (by omega)
      · simp only [if_neg hb, if_neg hb2, n3]
        exact N _ (by omega) (by omega) (by omega)
theorem accountingref02_divide.eq {P c : Int} (h0 : 0 ≤ P) (h1 : P < 340282366920938463463374607431768211456) (hc : 0 < c) (hc1 : c < 18446744073709551616) : Ev (fun k => accountingref02_divide.f k (P / 18446744073709551616) (P % 18446744073709551616) c) (P / c / 18446744073709551616, P / c % 18446744073709551616, P % c) :=
  accountingref02_divide.go P c h0 h1 hc hc1 128 0 _ _ 0 0 0 rfl (by omega) (by omega) (by omega) (by omega) (by omega) (by omega) (by omega) (by omega) (by omega) hc (by simp; omega) (by simp)
theorem accountingref02_away.eq {mode : Int} {neg : Bool} {q r c : Int} (hq : 0 ≤ q) (hm : 1 ≤ mode ∧ mode ≤ 5) (h0 : 0 ≤ r) (h1 : r < c) (h2 : c < 18446744073709551616) : accountingref02_away.f mode neg ((Int.tmod q 2) == 1) r c = some (awayv mode neg q r c) := by
  have e : IntKind.u64.wrap (c - r) = c - r := u64w (by omega) (by omega)
  have e2 : Int.tmod q 2 = q % 2 := Int.tmod_eq_emod_of_nonneg hq
  unfold accountingref02_away.f awayv
  rw [e, e2]
  have hmm : mode = 1 ∨ mode = 2 ∨ mode = 3 ∨ mode = 4 ∨ mode = 5 := by omega
  have hrc : (0 < r) ↔ ¬ r = 0 := by omega
  rcases hmm with rfl | rfl | rfl | rfl | rfl
  · simp
  · by_cases hr : r = 0 <;> simp [hr]
    omega
  · by_cases hr : r = 0 <;> simp [hr]
    omega
  · by_cases hr : r = 0
    · subst hr
      have x1 : ¬ (0 : Int) > c - 0 := by omega
      have x2 : ¬ (0 : Int) = c - 0 := by omega
      rw [if_neg (by decide), if_neg (by decide), if_pos rfl, if_neg x1, if_neg x2]
      simp
    · by_cases h3 : r > c - r
      · have h4 : c - r < r := h3
        simp [h3, hr]
      · have h4 : ¬ c - r < r := h3
        by_cases h5 : r = c - r
        · rw [if_neg (by decide), if_neg (by decide), if_pos rfl, if_neg h3, if_pos h5]
          simp [h4, ← h5, hr]
          by_cases h6 : q % 2 = 1 <;> simp [h6]
        · simp [h3, h4, h5]
  · by_cases hr : r = 0 <;> cases neg <;> simp [hr]
    omega
theorem rsignv_big {neg : Bool} {z : Int} (h : 9223372036854775808 < z) : signv neg z = (0, 4) := by
  unfold signv
  cases neg
  · simp; omega
  · simp; omega
theorem rnegv_eq {a b c : Int} : negv a b c = if (decide (ab a * ab b = 0)) = true then false else (((decide (a < 0)) != (decide (b < 0))) != (decide (c < 0))) := by
  unfold negv
  have e : (ab a * ab b = 0) ↔ (a * b = 0) := by
    rw [Int.mul_eq_zero, Int.mul_eq_zero, ab_zero, ab_zero]
  by_cases h : a * b = 0
  · simp [e, h]
  · simp [e, h]
theorem accountingref02_MulDiv.j2_eq {z : Int} {neg : Bool} (h0 : 0 ≤ z) (h1 : z ≤ 18446744073709551615) : Ev (fun k => accountingref02_MulDiv.j2 k z neg) (signv neg z) := by
  have J : ∀ b, Ev (fun k => accountingref02_MulDiv.j3 k z neg b) (if b = true then (0, 4) else if z = 9223372036854775808 then (-9223372036854775808, 0) else if neg = true then (wrap64 (-(wrap64 z)), 0) else (wrap64 z, 0)) := by
    intro b
    refine Ev.succ ?_
    cases b
    · simp only [accountingref02_MulDiv.j3, Bool.false_eq_true, if_false]
      split
      · exact Ev.const _
      · cases neg
        · simp only [Bool.false_eq_true, if_false]; exact Ev.const _
        · simp only [if_true]; exact Ev.const _
    · simp only [accountingref02_MulDiv.j3, if_true]; exact Ev.const _
  refine Ev.succ ?_
  by_cases h2 : z > 9223372036854775808
  · simp only [accountingref02_MulDiv.j2, if_pos h2]
    have := J true
    simp only [if_true] at this
    rw [rsignv_big h2]; exact this
  · by_cases h3 : z = 9223372036854775808
    · simp only [accountingref02_MulDiv.j2, if_neg h2, if_pos h3]
      have := J (!neg)
      subst h3
      unfold signv
      cases neg
      · simpa using this
      · simpa using this
    · simp only [accountingref02_MulDiv.j2, if_neg h2, if_neg h3]
      have := J false
      unfold signv
      simp only [Bool.false_eq_true, if_false, if_neg h3] at this
      rw [w64 (n := z) (by omega) (by omega), w64 (n := -z) (by omega) (by omega)] at this
      rw [if_neg h2, if_neg (show ¬ z ≥ 9223372036854775808 by omega)]
      exact this
theorem accountingref02_MulDiv.eq {a b c : Int} (mode : Int) (ha : inI a) (hb : inI b) (hc : inI c) : Ev (fun k => accountingref02_MulDiv.f k a b c mode) (mdv a b c mode) := by
  unfold mdv
  by_cases hm : mode < 1 ∨ mode > 5
  · rw [if_pos hm]
    have j : Ev (fun k => accountingref02_MulDiv.j0 k a b c mode true) (0, 10) := by
      refine Ev.succ ?_
      simp only [accountingref02_MulDiv.j0, if_true]
      exact Ev.const _
    by_cases h1 : mode < 1
    · simp only [accountingref02_MulDiv.f, if_pos h1]; exact j
    · have h2 : mode > 5 := by omega
      simp only [accountingref02_MulDiv.f, if_neg h1, decide_eq_true h2]; exact j
  rw [if_neg hm]
  have h1 : ¬ mode < 1 := by omega
  have h2 : ¬ mode > 5 := by omega
  simp only [accountingref02_MulDiv.f, if_neg h1, decide_eq_false h2]
  refine Ev.succ ?_
  simp only [accountingref02_MulDiv.j0, Bool.false_eq_true, if_false]
  by_cases h3 : c = 0
  · simp only [if_pos h3]; exact Ev.const _
  have ba := ab_bound ha; have bb := ab_bound hb; have bc := ab_bound hc; have pc := ab_pos h3
  have bp := prod_ab ha hb
  simp only [if_neg h3, accountingref02_mag.eq ha, accountingref02_mag.eq hb, accountingref02_mag.eq hc, Option.bind_some, accountingref02_wide.eq ba.1 (show ab a < 18446744073709551616 by omega) bb.1 (show ab b < 18446744073709551616 by omega)]
  refine Ev.bind (accountingref02_divide.eq bp.1 (by have := bp.2; omega) pc (by omega)) ?_
  have q0 : 0 ≤ ab a * ab b / ab c := Int.ediv_nonneg bp.1 (by omega)
  have r0 : 0 ≤ ab a * ab b % ab c := Int.emod_nonneg _ (by omega)
  have r1 : ab a * ab b % ab c < ab c := Int.emod_lt_of_pos _ pc
  have hneg : (((decide (a < 0)) != (decide (b < 0))) != (decide (c < 0))) = negv a b c ∨ ab a * ab b = 0 := by
    by_cases hp : ab a * ab b = 0
    · exact .inr hp
    · refine .inl ?_
      rw [rnegv_eq]; simp [hp]
  by_cases hb : ab a * ab b / ab c > 9223372036854775808
  · have big : signv (negv a b c) (sizev a b c mode) = (0, 4) := rsignv_big (by unfold sizev; split <;> omega)
    rw [big]
    have j : ∀ x y z w u, Ev (fun k => accountingref02_MulDiv.j1 k x y z w u true) (0, 4) := fun x y z w u => by
      refine Ev.succ ?_
      simp only [accountingref02_MulDiv.j1, if_true]
      exact Ev.const _
    by_cases hh : ab a * ab b / ab c / 18446744073709551616 > 0
    · simp only [if_pos hh]; exact j _ _ _ _ _
    · have : ab a * ab b / ab c % 18446744073709551616 > 9223372036854775808 := by omega
      simp only [if_neg hh, decide_eq_true this]; exact j _ _ _ _ _
  · have hh : ¬ ab a * ab b / ab c / 18446744073709551616 > 0 := by omega
    have hl : ab a * ab b / ab c % 18446744073709551616 = ab a * ab b / ab c := by omega
    simp only [if_neg hh, hl, decide_eq_false hb]
    refine Ev.succ ?_
    have aw := accountingref02_away.eq (mode := mode) (neg := ((decide (a < 0)) != (decide (b < 0))) != (decide (c < 0))) q0 (by omega) r0 r1 (show ab c < 18446744073709551616 by omega)
    simp only [accountingref02_MulDiv.j1, Bool.false_eq_true, if_false, accountingref02_mag.eq hc, Option.bind_some, aw]
    have uw : IntKind.u64.wrap (ab a * ab b / ab c + 1) = ab a * ab b / ab c + 1 := u64w (by omega) (by omega)
    unfold sizev
    rcases hneg with hneg | hp
    · rw [hneg]
      split
      · rw [uw]; exact accountingref02_MulDiv.j2_eq (by omega) (by omega)
      · rw [Int.add_zero]; exact accountingref02_MulDiv.j2_eq q0 (by omega)
    · have z1 : ∀ n, awayv mode n (ab a * ab b / ab c) (ab a * ab b % ab c) (ab c) = false := fun n => by unfold awayv; simp [hp]
      simp only [z1, Bool.false_eq_true, if_false, Int.add_zero]
      have := accountingref02_MulDiv.j2_eq (z := ab a * ab b / ab c) (neg := ((decide (a < 0)) != (decide (b < 0))) != (decide (c < 0))) q0 (by omega)
      have s0 : ∀ n, signv n (ab a * ab b / ab c) = (0, 0) := fun n => by unfold signv; rw [hp]; cases n <;> simp
      rw [s0] at this ⊢
      exact this
theorem accountingref02_Mod.eq {a b c : Int} (ha : inI a) (hb : inI b) (hc : inI c) : Ev (fun k => accountingref02_Mod.f k a b c) (modv a b c) := by
  unfold modv accountingref02_Mod.f
  by_cases h3 : c = 0
  · simp only [if_pos h3]; exact Ev.const _
  have ba := ab_bound ha; have bb := ab_bound hb; have bc := ab_bound hc; have pc := ab_pos h3
  have bp := prod_ab ha hb
  simp only [if_neg h3, accountingref02_mag.eq ha, accountingref02_mag.eq hb, accountingref02_mag.eq hc, Option.bind_some, accountingref02_wide.eq ba.1 (show ab a < 18446744073709551616 by omega) bb.1 (show ab b < 18446744073709551616 by omega)]
  refine Ev.bind (accountingref02_divide.eq bp.1 (by have := bp.2; omega) pc (by omega)) ?_
  have r0 : 0 ≤ ab a * ab b % ab c := Int.emod_nonneg _ (by omega)
  have r1 : ab a * ab b % ab c < ab c := Int.emod_lt_of_pos _ pc
  have sg : a * b = if ((decide (a < 0)) != (decide (b < 0))) = true then -(ab a * ab b) else ab a * ab b := by
    unfold ab
    by_cases x : a < 0 <;> by_cases y : b < 0 <;> simp [x, y, Int.neg_mul, Int.mul_neg]
  have e1 : ∀ z : Int, 0 ≤ z → z < ab c → wrap64 z = z := fun z z0 z1 => w64 (by omega) (by omega)
  rw [sg]
  by_cases hz : ab a * ab b % ab c > 0
  · simp only [if_pos hz]
    by_cases n : ((decide (a < 0)) != (decide (b < 0))) = true
    · simp only [if_pos n]
      rw [u64w (n := ab c - ab a * ab b % ab c) (by omega) (by omega), e1 (ab c - ab a * ab b % ab c) (by omega) (by omega)]
      have h := Int.emod_add_mul_ediv (ab a * ab b) (ab c)
      have : -(ab a * ab b) = (ab c - ab a * ab b % ab c) + ab c * (-(ab a * ab b / ab c) - 1) := by
        rw [Int.mul_sub, Int.mul_neg]; omega
      have z := Int.emod_eq_of_lt (a := ab c - ab a * ab b % ab c) (b := ab c) (by omega) (by omega)
      rw [this, Int.add_mul_emod_self_left, z]
      exact Ev.const _
    · simp only [if_neg n]
      rw [e1 _ r0 r1]
      exact Ev.const _
  · have hz0 : ab a * ab b % ab c = 0 := by omega
    simp only [if_neg hz]
    have z : (if ((decide (a < 0)) != (decide (b < 0))) = true then -(ab a * ab b) else ab a * ab b) % ab c = 0 := by
      split
      · exact Int.emod_eq_zero_of_dvd (Int.dvd_neg.2 (Int.dvd_of_emod_eq_zero hz0))
      · exact hz0
    rw [z, hz0, w64 (n := 0) (by omega) (by omega)]
    exact Ev.const _
end Go.Proofs.Ytikglhfeookhaaa.M
end
section
-- Written by mprint.py (a program of this session) over the kit's print.
namespace Go.Proofs.Ytikglhfeookhaaa.M
open Go.RowKit Go.Proofs.YtikglhfeookhaaaW.PrintWords Go.Proofs.YtikglhfeookhaaaW.PrintLast Go.Proofs.YtikglhfeookhaaaW.PrintMore
attribute [local go_sem] max2_int min2_int max_two min_two max_three min_three max_four min_four   -- for this text's walks alone
set_option linter.unusedVariables false
set_option linter.unusedSimpArgs false

/-! ### accountingref08_total: function 23 -/
mutual
def accountingref08_total.j0 : Nat → List Int → Bool → Option (Int × Int)
  | 0, _, _ => none
  | k + 1, x1, x17 => if x17 = true then (some (0, 4)) else (accountingref08_total.l0 k x1 0)
def accountingref08_total.l0 : Nat → List Int → Int → Option (Int × Int)
  | 0, _, _ => none
  | k + 1, x1, x6 => if x6 < (x1.length : Int) then (if 0 ≤ x6 then (if (rd x1 x6) < 0 then (some (0, 2)) else (accountingref08_total.l0 k x1 (wrap64 (x6 + 1)))) else (none)) else (accountingref08_total.l1 k x1 0 0)
def accountingref08_total.l1 : Nat → List Int → Int → Int → Option (Int × Int)
  | 0, _, _, _ => none
  | k + 1, x1, x7, x8 => if x8 < (x1.length : Int) then (if 0 ≤ x8 then (if (rd x1 x8) > (wrap64 (1000000000000000 - x7)) then (some (0, 4)) else (accountingref08_total.l1 k x1 (wrap64 (x7 + (rd x1 x8))) (wrap64 (x8 + 1)))) else (none)) else (if x7 = 0 then (some (0, 2)) else (some (x7, 0)))
end
def accountingref08_total.f (k : Nat) (a0 : Int) (l1 : List Int) : Option (Int × Int) := if (l1.length : Int) > 200 then (some (0, 9)) else (if a0 > 1000000000000000 then (accountingref08_total.j0 k l1 true) else (accountingref08_total.j0 k l1 (decide (a0 < (-1000000000000000)))))
theorem accountingref08_total.mono_l : ∀ k, (∀ y0 y1, LeO (accountingref08_total.j0 k y0 y1) (accountingref08_total.j0 (k + 1) y0 y1)) ∧ (∀ y0 y1, LeO (accountingref08_total.l0 k y0 y1) (accountingref08_total.l0 (k + 1) y0 y1)) ∧ (∀ y0 y1 y2, LeO (accountingref08_total.l1 k y0 y1 y2) (accountingref08_total.l1 (k + 1) y0 y1 y2))
  | 0 => ⟨fun _ _ r h => by simp [accountingref08_total.j0] at h, fun _ _ r h => by simp [accountingref08_total.l0] at h, fun _ _ _ r h => by simp [accountingref08_total.l1] at h⟩
  | k + 1 => by
    obtain ⟨ih0, ih1, ih2⟩ := accountingref08_total.mono_l k
    refine ⟨?_, ?_, ?_⟩
    · intro y0 y1
      unfold accountingref08_total.j0
      repeat' first
      | (with_reducible exact ih0 _ _)
      | (with_reducible exact ih1 _ _)
      | (with_reducible exact ih2 _ _ _)
      | (with_reducible exact LeO.refl _)
      | (with_reducible exact LeO.none _)
      | (with_reducible refine LeO.ite ?_ ?_)
      | (with_reducible refine LeO.bind ?_ (fun _ => ?_))
      | exact ih0 _ _
      | exact ih1 _ _
      | exact ih2 _ _ _
      | exact LeO.none _
      | refine LeO.ite ?_ ?_
      | refine LeO.bind ?_ (fun _ => ?_)
    · intro y0 y1
      unfold accountingref08_total.l0
      repeat' first
      | (with_reducible exact ih0 _ _)
      | (with_reducible exact ih1 _ _)
      | (with_reducible exact ih2 _ _ _)
      | (with_reducible exact LeO.refl _)
      | (with_reducible exact LeO.none _)
      | (with_reducible refine LeO.ite ?_ ?_)
      | (with_reducible refine LeO.bind ?_ (fun _ => ?_))
      | exact ih0 _ _
      | exact ih1 _ _
      | exact ih2 _ _ _
      | exact LeO.none _
      | refine LeO.ite ?_ ?_
      | refine LeO.bind ?_ (fun _ => ?_)
    · intro y0 y1 y2
      unfold accountingref08_total.l1
      repeat' first
      | (with_reducible exact ih0 _ _)
      | (with_reducible exact ih1 _ _)
      | (with_reducible exact ih2 _ _ _)
      | (with_reducible exact LeO.refl _)
      | (with_reducible exact LeO.none _)
      | (with_reducible refine LeO.ite ?_ ?_)
      | (with_reducible refine LeO.bind ?_ (fun _ => ?_))
      | exact ih0 _ _
      | exact ih1 _ _
      | exact ih2 _ _ _
      | exact LeO.none _
      | refine LeO.ite ?_ ?_
      | refine LeO.bind ?_ (fun _ => ?_)
theorem accountingref08_total.mono : ∀ a0 a1 k, LeO (accountingref08_total.f k a0 a1) (accountingref08_total.f (k + 1) a0 a1) := by
 intro a0 a1 k
 obtain ⟨ih0, ih1, ih2⟩ := accountingref08_total.mono_l k
 unfold accountingref08_total.f
 repeat' first
   | (with_reducible exact ih0 _ _)
   | (with_reducible exact ih1 _ _)
   | (with_reducible exact ih2 _ _ _)
   | (with_reducible exact LeO.refl _)
   | (with_reducible exact LeO.none _)
   | (with_reducible refine LeO.ite ?_ ?_)
   | (with_reducible refine LeO.bind ?_ (fun _ => ?_))
   | exact ih0 _ _
   | exact ih1 _ _
   | exact ih2 _ _ _
   | exact LeO.none _
   | refine LeO.ite ?_ ?_
   | refine LeO.bind ?_ (fun _ => ?_)
set_option maxHeartbeats 8000000 in
set_option maxRecDepth 100000 in
theorem accountingref08_total.calls (k : Nat) (a0 : Int) (A1 : Option Addr) (c1 : Nat) (l1 : List Int) (r1 : Int) (r2 : Int) (w : World) (hr1 : Kd.C (Kd.int .i64) w A1 l1.length l1) (hc1 : l1.length ≤ c1) (h : accountingref08_total.f k a0 l1 = some (r1, r2)) :
    Calls Try.prog 23 #[.int .i64 a0, .slice A1 l1.length c1] w fun e w' => e = .returned (.tuple #[.int .i64 r1, .int .i64 r2]) ∧ Drawn0 w w' := by
 have hu3 := Try.underlying3
 have HR1 := Aside0.mk hr1
 have HC1 := Aside0.mk hc1
 clear hr1 hc1
 have H : (if (l1.length : Int) > 200 then (some (0, 9)) else (if a0 > 1000000000000000 then (accountingref08_total.j0 k l1 true) else (accountingref08_total.j0 k l1 (decide (a0 < (-1000000000000000)))))) = some (r1, r2) := h
 clear h
 by_cases c3 : (l1.length : Int) > 200
 ·rw [if_pos c3] at H
  have c3b0 : decide (200 < (l1.length : Int)) = true := decide_eq_true c3
  have c3b1 : decide (200 < l1.length) = true := decide_eq_true (by omega)
  clear c3
  simp only [Option.some.injEq, Prod.mk.injEq] at H
  obtain ⟨rfl, rfl⟩ := H
  go_enter Try.func23, Try.ntmps23
  go_wp2
  go_ret2
  exact ⟨by first | rfl | (simp; done) | (simp [*]; done), by repeat (first | exact Drawn0.refl _ | apply Drawn0.step)⟩
 ·rw [if_neg c3] at H
  have c3b0 : decide (200 < (l1.length : Int)) = false := decide_eq_false c3
  have c3b1 : decide (200 < l1.length) = false := decide_eq_false (by omega)
  clear c3
  have HC4 := Aside0.mk H
  clear H
  go_enter Try.func23, Try.ntmps23
  go_upto_region 3 with (fail)
  go_cut [17] (fun v17 wc => ∃ (kq : Nat) (x17_3 : Bool), v17 = .bool x17_3 ∧ Aside0 (accountingref08_total.j0 kq l1 x17_3 = some (r1, r2)) ∧ Aside0 (kq ≤ k) ∧ Drawn0 w wc)
  case first =>
   have H := HC4.out
   clear HC4
   by_cases c5 : a0 > 1000000000000000
   ·rw [if_pos c5] at H
    have c5b0 : decide (1000000000000000 < a0) = true := decide_eq_true c5
    clear c5
    (first | rw [c5b0] | (simp only [i64_w, i32_w]; rw [c5b0]) | skip)
    have H' := Aside0.mk H
    clear H
    go_wp2
    go_meet
    case rel => exact ⟨_, (true), (by first | rfl | (simp; done) | (simp [*]; done)), H', ⟨by first | omega | exact Nat.le_refl _⟩, by repeat (first | exact Drawn0.refl _ | apply Drawn0.step)⟩
   ·rw [if_neg c5] at H
    have c5b0 : decide (1000000000000000 < a0) = false := decide_eq_false c5
    clear c5
    (first | rw [c5b0] | (simp only [i64_w, i32_w]; rw [c5b0]) | skip)
    have H' := Aside0.mk H
    clear H
    go_wp2
    go_meet
    case rel => exact ⟨_, (decide (a0 < (-1000000000000000))), (by first | rfl | (simp; done) | (simp [*]; done)), H', ⟨by first | omega | exact Nat.le_refl _⟩, by repeat (first | exact Drawn0.refl _ | apply Drawn0.step)⟩
  case rest =>
   clear HC4
   try clear c1
   try clear c2
   try clear p2
   try clear c3
   try clear c3b0
   try clear c3b1
   try clear c5
   try clear c5b0
   obtain ⟨kq, x17_3, rfl, HA, HJ3, ⟨mc3, rfl⟩⟩ := hcut
   cases kq with
   | zero => exact absurd HA.out (by simp [accountingref08_total.j0])
   | succ kj3 =>
    have H := HA.out
    clear HA
    simp only [accountingref08_total.j0] at H
    by_cases c6 : x17_3 = true
    ·subst c6
     have H1 : (some (0, 4)) = some (r1, r2) := by rw [if_pos rfl] at H; exact H
     clear H
     have H := H1
     clear H1
     simp only [Option.some.injEq, Prod.mk.injEq] at H
     obtain ⟨rfl, rfl⟩ := H
     go_wp2
     go_ret2
     exact ⟨by first | rfl | (simp; done) | (simp [*]; done), by repeat (first | exact Drawn0.refl _ | apply Drawn0.step)⟩
    ·replace c6 := Bool.eq_false_iff.mpr c6
     subst c6
     have H1 : (accountingref08_total.l0 kj3 l1 0) = some (r1, r2) := by rw [if_neg (show ¬ (false = true) by decide)] at H; exact H
     clear H
     have H := H1
     clear H1
     have H' := Aside0.mk H
     clear H
     go_wp2
     go_loopg [6] kj3 (fun kq v6 w' => ∃ (x6_2 : Int), v6 = .int .i64 x6_2 ∧ Aside0 (accountingref08_total.l0 kq l1 x6_2 = some (r1, r2)) ∧ Aside0 (kq ≤ kj3) ∧ Drawn0 w w')
     case atStart => exact ⟨(0), (by first | rfl | (simp; done) | (simp [*]; done)), H', ⟨Nat.le_refl _⟩, by repeat (first | exact Drawn0.refl _ | apply Drawn0.step)⟩
     case round =>
      clear H'
      try clear c1
      try clear c2
      try clear p2
      try clear c3
      try clear c3b0
      try clear c3b1
      try clear c5
      try clear c5b0
      try clear c6
      try clear p2
      obtain ⟨x6_2, rfl, HA, HK2, ⟨m2, rfl⟩⟩ := hrel
      cases gk with
      | zero => exact absurd HA.out (by simp [accountingref08_total.l0])
      | succ k2 =>
       have H := HA.out
       clear HA
       simp only [accountingref08_total.l0] at H
       by_cases c7 : x6_2 < (l1.length : Int)
       ·rw [if_pos c7] at H
        have c7b0 : decide (x6_2 < (l1.length : Int)) = true := decide_eq_true c7
        clear c7
        by_cases c8 : 0 ≤ x6_2
        ·rw [if_pos c8] at H
         have c8b0 : decide (0 ≤ x6_2) = true := decide_eq_true c8
         clear c8
         by_cases c9 : (rd l1 x6_2) < 0
         ·rw [if_pos c9] at H
          have c9b0 : decide ((rd l1 x6_2) < 0) = true := decide_eq_true c9
          clear c9
          simp only [Option.some.injEq, Prod.mk.injEq] at H
          obtain ⟨rfl, rfl⟩ := H
          have p101 : 0 ≤ (x6_2 : Int) := of_decide_eq_true (by first | (with_reducible assumption) | assumption)
          have q101 : x6_2 < (l1.length : Int) := of_decide_eq_true (by first | (with_reducible assumption) | assumption)
          obtain ⟨ad101, e101, hx101_0⟩ := Kd.at_int HR1.out x6_2 p101 q101
          cases e101
          replace p101 := eq_true p101
          replace q101 := eq_true q101
          go_wp2
          go_ret2
          exact ⟨by first | rfl | (simp; done) | (simp [*]; done), by repeat (first | exact Drawn0.refl _ | apply Drawn0.step)⟩
         ·rw [if_neg c9] at H
          have c9b0 : decide ((rd l1 x6_2) < 0) = false := decide_eq_false c9
          clear c9
          have H' := Aside0.mk H
          clear H
          have p101 : 0 ≤ (x6_2 : Int) := of_decide_eq_true (by first | (with_reducible assumption) | assumption)
          have q101 : x6_2 < (l1.length : Int) := of_decide_eq_true (by first | (with_reducible assumption) | assumption)
          obtain ⟨ad101, e101, hx101_0⟩ := Kd.at_int HR1.out x6_2 p101 q101
          cases e101
          replace p101 := eq_true p101
          replace q101 := eq_true q101
          go_wp2
          go_roundg k2
          case measure => have := HJ3.out; have := HK2.out; omega
          case rel => exact ⟨(wrap64 (x6_2 + 1)), (by first | rfl | (simp; done) | (simp [*]; done)), H', ⟨by have := HJ3.out; have := HK2.out; omega⟩, by repeat (first | exact Drawn0.refl _ | apply Drawn0.step)⟩
        ·rw [if_neg c8] at H
         exact absurd H (by simp)
       ·rw [if_neg c7] at H
        have c7b0 : decide (x6_2 < (l1.length : Int)) = false := decide_eq_false c7
        clear c7
        have H' := Aside0.mk H
        clear H
        go_wp2
        go_loopg [7, 8] k2 (fun kq v7 v8 w' => ∃ (x7_3 : Int) (x8_3 : Int), v7 = .int .i64 x7_3 ∧ v8 = .int .i64 x8_3 ∧ Aside0 (accountingref08_total.l1 kq l1 x7_3 x8_3 = some (r1, r2)) ∧ Aside0 (kq ≤ k2) ∧ Drawn0 w w')
        case atStart => exact ⟨(0), (0), (by first | rfl | (simp; done) | (simp [*]; done)), (by first | rfl | (simp; done) | (simp [*]; done)), H', ⟨Nat.le_refl _⟩, by repeat (first | exact Drawn0.refl _ | apply Drawn0.step)⟩
        case round =>
         clear H'
         try clear c1
         try clear p1
         try clear q1
         try clear hx1
         try clear c2
         try clear p2
         try clear c3
         try clear c3b0
         try clear c3b1
         try clear c5
         try clear c5b0
         try clear c6
         try clear p6
         try clear c7
         try clear c7b0
         try clear c8
         try clear c8b0
         try clear c9
         try clear c9b0
         try clear hx101_0
         try clear p101
         try clear p2
         try clear q101
         obtain ⟨x7_3, x8_3, rfl, rfl, HA, HK3, ⟨m3, rfl⟩⟩ := hrel
         cases gk with
         | zero => exact absurd HA.out (by simp [accountingref08_total.l1])
         | succ k3 =>
          have H := HA.out
          clear HA
          simp only [accountingref08_total.l1] at H
          by_cases c10 : x8_3 < (l1.length : Int)
          ·rw [if_pos c10] at H
           have c10b0 : decide (x8_3 < (l1.length : Int)) = true := decide_eq_true c10
           clear c10
           by_cases c11 : 0 ≤ x8_3
           ·rw [if_pos c11] at H
            have c11b0 : decide (0 ≤ x8_3) = true := decide_eq_true c11
            clear c11
            by_cases c12 : (rd l1 x8_3) > (wrap64 (1000000000000000 - x7_3))
            ·rw [if_pos c12] at H
             have c12b0 : decide ((wrap64 (1000000000000000 - x7_3)) < (rd l1 x8_3)) = true := decide_eq_true c12
             clear c12
             simp only [Option.some.injEq, Prod.mk.injEq] at H
             obtain ⟨rfl, rfl⟩ := H
             have p102 : 0 ≤ (x8_3 : Int) := of_decide_eq_true (by first | (with_reducible assumption) | assumption)
             have q102 : x8_3 < (l1.length : Int) := of_decide_eq_true (by first | (with_reducible assumption) | assumption)
             obtain ⟨ad102, e102, hx102_0⟩ := Kd.at_int HR1.out x8_3 p102 q102
             cases e102
             replace p102 := eq_true p102
             replace q102 := eq_true q102
             go_wp2
             go_ret2
             exact ⟨by first | rfl | (simp; done) | (simp [*]; done), by repeat (first | exact Drawn0.refl _ | apply Drawn0.step)⟩
            ·rw [if_neg c12] at H
             have c12b0 : decide ((wrap64 (1000000000000000 - x7_3)) < (rd l1 x8_3)) = false := decide_eq_false c12
             clear c12
             have H' := Aside0.mk H
             clear H
             have p102 : 0 ≤ (x8_3 : Int) := of_decide_eq_true (by first | (with_reducible assumption) | assumption)
             have q102 : x8_3 < (l1.length : Int) := of_decide_eq_true (by first | (with_reducible assumption) | assumption)
             obtain ⟨ad102, e102, hx102_0⟩ := Kd.at_int HR1.out x8_3 p102 q102
             cases e102
             replace p102 := eq_true p102
             replace q102 := eq_true q102
             have p103 : 0 ≤ (x8_3 : Int) := of_decide_eq_true (by first | (with_reducible assumption) | assumption)
             have q103 : x8_3 < (l1.length : Int) := of_decide_eq_true (by first | (with_reducible assumption) | assumption)
             obtain ⟨ad103, e103, hx103_0⟩ := Kd.at_int HR1.out x8_3 p103 q103
             obtain rfl : ad102 = ad103 := (by injection e103)
             replace p103 := eq_true p103
             replace q103 := eq_true q103
             go_wp2
             go_roundg k3
             case measure => have := HJ3.out; have := HK2.out; have := HK3.out; omega
             case rel => exact ⟨(wrap64 (x7_3 + (rd l1 x8_3))), (wrap64 (x8_3 + 1)), (by first | rfl | (simp; done) | (simp [*]; done)), (by first | rfl | (simp; done) | (simp [*]; done)), H', ⟨by have := HJ3.out; have := HK2.out; have := HK3.out; omega⟩, by repeat (first | exact Drawn0.refl _ | apply Drawn0.step)⟩
           ·rw [if_neg c11] at H
            exact absurd H (by simp)
          ·rw [if_neg c10] at H
           have c10b0 : decide (x8_3 < (l1.length : Int)) = false := decide_eq_false c10
           clear c10
           by_cases c13 : x7_3 = 0
           ·rw [if_pos c13] at H
            have c13b0 : (x7_3 == 0) = true := beq_iff_eq.mpr c13
            have c13b1 : (x7_3 != 0) = false := bne_eq_false_iff_eq.mpr c13
            clear c13
            simp only [Option.some.injEq, Prod.mk.injEq] at H
            obtain ⟨rfl, rfl⟩ := H
            go_wp2
            go_ret2
            exact ⟨by first | rfl | (simp; done) | (simp [*]; done), by repeat (first | exact Drawn0.refl _ | apply Drawn0.step)⟩
           ·rw [if_neg c13] at H
            have c13b0 : (x7_3 == 0) = false := beq_eq_false_iff_ne.mpr c13
            have c13b1 : (x7_3 != 0) = true := bne_iff_ne.mpr c13
            simp only [Option.some.injEq, Prod.mk.injEq] at H
            obtain ⟨rfl, rfl⟩ := H
            go_wp2
            go_ret2
            exact ⟨by first | rfl | (simp; done) | (simp [*]; done), by repeat (first | exact Drawn0.refl _ | apply Drawn0.step)⟩

end Go.Proofs.Ytikglhfeookhaaa.M
end
