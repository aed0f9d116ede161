/- What the claims of this seat share, part 2 of 7: what the program's functions compute. -/
import Derived.Test.YtoppdlideonjjaaQBB1
import Derived.Laws.Closers25b
import Derived.Laws.BitsLemmas
import Derived.RowKit
section
-- Written by mprint.py (a program of this session) over the kit's print.
namespace Go.Proofs.Ytoppdlideonjjaa.M
open Go.RowKit Go.Proofs.YtoppdlideonjjaaW.PrintWords Go.Proofs.YtoppdlideonjjaaW.PrintLast Go.Proofs.YtoppdlideonjjaaW.PrintMore
attribute [local go_sem] max2_int min2_int max_two min_two max_three min_three max_four min_four   -- for this text's walks alone
set_option linter.unusedVariables false
set_option linter.unusedSimpArgs false

/-! ### words_Code: function 33 -/
def words_Code.f (k : Nat) (a0 : ByteArray) : Option (Bool) := if a0.toList = ([] : List UInt8) then (some false) else (if (a0.size : Int) ≤ 12 then ((words_every__words_Code_1.f k a0).bind fun t102 => (some t102)) else (some false))
theorem words_Code.mono : ∀ a0 k, LeO (words_Code.f k a0) (words_Code.f (k + 1) a0) := by
 intro a0 k
 unfold words_Code.f
 repeat' first
   | (with_reducible exact words_every__words_Code_1.mono _ _)
   | (with_reducible exact LeO.refl _)
   | (with_reducible exact LeO.none _)
   | (with_reducible refine LeO.ite ?_ ?_)
   | (with_reducible refine LeO.bind ?_ (fun _ => ?_))
   | exact words_every__words_Code_1.mono _ _
   | exact LeO.none _
   | refine LeO.ite ?_ ?_
   | refine LeO.bind ?_ (fun _ => ?_)
set_option maxHeartbeats 8000000 in
set_option maxRecDepth 100000 in
theorem words_Code.calls (k : Nat) (a0 : ByteArray) (r : Bool) (w : World) (h : words_Code.f k a0 = some r) :
    Calls Try.prog 33 #[.string a0] w fun e w' => e = .returned (.bool r) ∧ Below w.heap.size w w' := by
 have HB := Aside0.mk (Below.refl w.heap.size w)
 have H : (if a0.toList = ([] : List UInt8) then (some false) else (if (a0.size : Int) ≤ 12 then ((words_every__words_Code_1.f k a0).bind fun t102 => (some t102)) else (some false))) = some r := h
 clear h
 by_cases c2 : a0.toList = ([] : List UInt8)
 ·rw [if_pos c2] at H
  have c2b0 : (a0.toList == ([] : List UInt8)) = true := beq_iff_eq.mpr c2
  have c2b1 : (a0.toList != ([] : List UInt8)) = false := bne_eq_false_iff_eq.mpr c2
  clear c2
  obtain rfl := Option.some.inj H
  go_enter Try.func33, Try.ntmps33
  go_wp2
  go_ret
  exact ⟨by first | rfl | (simp [errW_none, errW_some] <;> rfl) | (simp [*, errW_none, errW_some] <;> rfl), by repeat (first | (with_reducible first | exact HB.out | apply below_alloc | apply pw_below_drewN | apply below_drew1) | exact HB.out)⟩
 ·rw [if_neg c2] at H
  have c2b0 : (a0.toList == ([] : List UInt8)) = false := beq_eq_false_iff_ne.mpr c2
  have c2b1 : (a0.toList != ([] : List UInt8)) = true := bne_iff_ne.mpr c2
  by_cases c3 : (a0.size : Int) ≤ 12
  ·rw [if_pos c3] at H
   have c3b0 : decide ((a0.size : Int) ≤ 12) = true := decide_eq_true c3
   have c3b1 : decide (a0.size ≤ 12) = true := decide_eq_true (by omega)
   clear c3
   replace H := Option.bind_eq_some_iff.mp H
   obtain ⟨t102, A40, H⟩ := H
   replace H : (some t102) = some r := H
   have A4 := Aside0.mk A40
   clear A40
   obtain rfl := Option.some.inj H
   go_enter Try.func33, Try.ntmps33
   go_wp2_with (first | (go_at_call 49; (with_reducible refine (words_every__words_Code_1.calls k a0  t102 _ A4.out).mono ?_); rintro e w5 ⟨rfl, hb⟩; have n0_ := Aside0.mk (below_step (by repeat (first | (with_reducible first | exact HB.out | apply below_alloc | apply pw_below_drewN | apply below_drew1) | exact HB.out)) hb); clear HB; have HB := n0_; clear n0_; (try clear hb); (try clear hb2); (try clear hk); (try clear hi)))
   go_ret
   exact ⟨by first | rfl | (simp [errW_none, errW_some] <;> rfl) | (simp [*, errW_none, errW_some] <;> rfl), by repeat (first | (with_reducible first | exact HB.out | apply below_alloc | apply pw_below_drewN | apply below_drew1) | exact HB.out)⟩
  ·rw [if_neg c3] at H
   have c3b0 : decide ((a0.size : Int) ≤ 12) = false := decide_eq_false c3
   have c3b1 : decide (a0.size ≤ 12) = false := decide_eq_false (by omega)
   clear c3
   obtain rfl := Option.some.inj H
   go_enter Try.func33, Try.ntmps33
   go_wp2
   go_ret
   exact ⟨by first | rfl | (simp [errW_none, errW_some] <;> rfl) | (simp [*, errW_none, errW_some] <;> rfl), by repeat (first | (with_reducible first | exact HB.out | apply below_alloc | apply pw_below_drewN | apply below_drew1) | exact HB.out)⟩

end Go.Proofs.Ytoppdlideonjjaa.M
end
section
-- Written by mprint.py (a program of this session) over the kit's print.
namespace Go.Proofs.Ytoppdlideonjjaa.M
open Go.RowKit Go.Proofs.YtoppdlideonjjaaW.PrintWords Go.Proofs.YtoppdlideonjjaaW.PrintLast Go.Proofs.YtoppdlideonjjaaW.PrintMore
attribute [local go_sem] max2_int min2_int max_two min_two max_three min_three max_four min_four   -- for this text's walks alone
set_option linter.unusedVariables false
set_option linter.unusedSimpArgs false

/-! ### accountingref06_letter: function 56 -/
def accountingref06_letter.f (a0 : Int) : Option (Bool) := if a0 ≥ 97 then (if a0 ≤ 122 then (some true) else (if a0 ≥ 65 then (if a0 ≤ 90 then (some true) else (some (a0 == 95))) else (some (a0 == 95)))) else (if a0 ≥ 65 then (if a0 ≤ 90 then (some true) else (some (a0 == 95))) else (some (a0 == 95)))
set_option maxHeartbeats 8000000 in
set_option maxRecDepth 100000 in
theorem accountingref06_letter.calls (a0 : Int) (r : Bool) (w : World) (h : accountingref06_letter.f a0 = some r) :
    Calls Try.prog 56 #[.int .u8 a0] w fun e w' => e = .returned (.bool r) ∧ Drawn0 w w' := by
 have H : (if a0 ≥ 97 then (if a0 ≤ 122 then (some true) else (if a0 ≥ 65 then (if a0 ≤ 90 then (some true) else (some (a0 == 95))) else (some (a0 == 95)))) else (if a0 ≥ 65 then (if a0 ≤ 90 then (some true) else (some (a0 == 95))) else (some (a0 == 95)))) = some r := h
 clear h
 by_cases c2 : a0 ≥ 97
 ·rw [if_pos c2] at H
  have c2b0 : decide (97 ≤ a0) = true := decide_eq_true c2
  clear c2
  by_cases c3 : a0 ≤ 122
  ·rw [if_pos c3] at H
   have c3b0 : decide (a0 ≤ 122) = true := decide_eq_true c3
   clear c3
   obtain rfl := Option.some.inj H
   go_enter Try.func56, Try.ntmps56
   go_wp2
   go_ret
   exact ⟨by first | rfl | (simp; done) | (simp [*]; done), by repeat (first | exact Drawn0.refl _ | apply Drawn0.step)⟩
  ·rw [if_neg c3] at H
   have c3b0 : decide (a0 ≤ 122) = false := decide_eq_false c3
   clear c3
   by_cases c4 : a0 ≥ 65
   ·rw [if_pos c4] at H
    have c4b0 : decide (65 ≤ a0) = true := decide_eq_true c4
    clear c4
    by_cases c5 : a0 ≤ 90
    ·rw [if_pos c5] at H
     have c5b0 : decide (a0 ≤ 90) = true := decide_eq_true c5
     clear c5
     obtain rfl := Option.some.inj H
     go_enter Try.func56, Try.ntmps56
     go_wp2
     go_ret
     exact ⟨by first | rfl | (simp; done) | (simp [*]; done), by repeat (first | exact Drawn0.refl _ | apply Drawn0.step)⟩
    ·rw [if_neg c5] at H
     have c5b0 : decide (a0 ≤ 90) = false := decide_eq_false c5
     clear c5
     obtain rfl := Option.some.inj H
     go_enter Try.func56, Try.ntmps56
     go_wp2
     go_ret
     exact ⟨by first | rfl | (simp; done) | (simp [*]; done), by repeat (first | exact Drawn0.refl _ | apply Drawn0.step)⟩
   ·rw [if_neg c4] at H
    have c4b0 : decide (65 ≤ a0) = false := decide_eq_false c4
    clear c4
    obtain rfl := Option.some.inj H
    go_enter Try.func56, Try.ntmps56
    go_wp2
    go_ret
    exact ⟨by first | rfl | (simp; done) | (simp [*]; done), by repeat (first | exact Drawn0.refl _ | apply Drawn0.step)⟩
 ·rw [if_neg c2] at H
  have c2b0 : decide (97 ≤ a0) = false := decide_eq_false c2
  clear c2
  by_cases c6 : a0 ≥ 65
  ·rw [if_pos c6] at H
   have c6b0 : decide (65 ≤ a0) = true := decide_eq_true c6
   clear c6
   by_cases c7 : a0 ≤ 90
   ·rw [if_pos c7] at H
    have c7b0 : decide (a0 ≤ 90) = true := decide_eq_true c7
    clear c7
    obtain rfl := Option.some.inj H
    go_enter Try.func56, Try.ntmps56
    go_wp2
    go_ret
    exact ⟨by first | rfl | (simp; done) | (simp [*]; done), by repeat (first | exact Drawn0.refl _ | apply Drawn0.step)⟩
   ·rw [if_neg c7] at H
    have c7b0 : decide (a0 ≤ 90) = false := decide_eq_false c7
    clear c7
    obtain rfl := Option.some.inj H
    go_enter Try.func56, Try.ntmps56
    go_wp2
    go_ret
    exact ⟨by first | rfl | (simp; done) | (simp [*]; done), by repeat (first | exact Drawn0.refl _ | apply Drawn0.step)⟩
  ·rw [if_neg c6] at H
   have c6b0 : decide (65 ≤ a0) = false := decide_eq_false c6
   clear c6
   obtain rfl := Option.some.inj H
   go_enter Try.func56, Try.ntmps56
   go_wp2
   go_ret
   exact ⟨by first | rfl | (simp; done) | (simp [*]; done), by repeat (first | exact Drawn0.refl _ | apply Drawn0.step)⟩

end Go.Proofs.Ytoppdlideonjjaa.M
end
section
-- Written by mprint.py (a program of this session) over the kit's print.
namespace Go.Proofs.Ytoppdlideonjjaa.M
open Go.RowKit Go.Proofs.YtoppdlideonjjaaW.PrintWords Go.Proofs.YtoppdlideonjjaaW.PrintLast Go.Proofs.YtoppdlideonjjaaW.PrintMore
attribute [local go_sem] max2_int min2_int max_two min_two max_three min_three max_four min_four   -- for this text's walks alone
set_option linter.unusedVariables false
set_option linter.unusedSimpArgs false

/-! ### accountingref06_digit: function 57 -/
def accountingref06_digit.f (a0 : Int) : Option (Bool) := if a0 ≥ 48 then (some (decide (a0 ≤ 57))) else (some false)
set_option maxHeartbeats 8000000 in
set_option maxRecDepth 100000 in
theorem accountingref06_digit.calls (a0 : Int) (r : Bool) (w : World) (h : accountingref06_digit.f a0 = some r) :
    Calls Try.prog 57 #[.int .u8 a0] w fun e w' => e = .returned (.bool r) ∧ Drawn0 w w' := by
 have H : (if a0 ≥ 48 then (some (decide (a0 ≤ 57))) else (some false)) = some r := h
 clear h
 by_cases c2 : a0 ≥ 48
 ·rw [if_pos c2] at H
  have c2b0 : decide (48 ≤ a0) = true := decide_eq_true c2
  clear c2
  obtain rfl := Option.some.inj H
  go_enter Try.func57, Try.ntmps57
  go_wp2
  go_ret
  exact ⟨by first | rfl | (simp; done) | (simp [*]; done), by repeat (first | exact Drawn0.refl _ | apply Drawn0.step)⟩
 ·rw [if_neg c2] at H
  have c2b0 : decide (48 ≤ a0) = false := decide_eq_false c2
  clear c2
  obtain rfl := Option.some.inj H
  go_enter Try.func57, Try.ntmps57
  go_wp2
  go_ret
  exact ⟨by first | rfl | (simp; done) | (simp [*]; done), by repeat (first | exact Drawn0.refl _ | apply Drawn0.step)⟩

end Go.Proofs.Ytoppdlideonjjaa.M
end
section
-- Written by mprint.py (a program of this session) over the kit's print.
namespace Go.Proofs.Ytoppdlideonjjaa.M
open Go.RowKit Go.Proofs.YtoppdlideonjjaaW.PrintWords Go.Proofs.YtoppdlideonjjaaW.PrintLast Go.Proofs.YtoppdlideonjjaaW.PrintMore
attribute [local go_sem] max2_int min2_int max_two min_two max_three min_three max_four min_four   -- for this text's walks alone
set_option linter.unusedVariables false
set_option linter.unusedSimpArgs false

/-! ### accountingref06_Code: function 35 -/
def accountingref06_Code.l0 : Nat → ByteArray → Int → Option (Bool)
  | 0, _, _ => none
  | k + 1, x0, x3 => if x3 < (x0.size : Int) then (if 0 ≤ x3 then ((accountingref06_letter.f (bt x0 x3)).bind fun t101 => (if t101 = true then (accountingref06_Code.l0 k x0 (wrap64 (x3 + 1))) else ((accountingref06_digit.f (bt x0 x3)).bind fun t102 => (if t102 = true then (accountingref06_Code.l0 k x0 (wrap64 (x3 + 1))) else (some false))))) else (none)) else (if (x0.size : Int) ≥ 1 then (some (decide ((x0.size : Int) ≤ 12))) else (some false))
def accountingref06_Code.f (k : Nat) (a0 : ByteArray) : Option (Bool) := accountingref06_Code.l0 k a0 0
theorem accountingref06_Code.mono_l : ∀ k, (∀ y0 y1, LeO (accountingref06_Code.l0 k y0 y1) (accountingref06_Code.l0 (k + 1) y0 y1))
  | 0 => fun _ _ r h => by simp [accountingref06_Code.l0] at h
  | k + 1 => by
    have ih0 := accountingref06_Code.mono_l k
    · intro y0 y1
      unfold accountingref06_Code.l0
      repeat' first
      | (with_reducible exact ih0 _ _)
      | (with_reducible exact LeO.refl _)
      | (with_reducible exact LeO.none _)
      | (with_reducible refine LeO.ite ?_ ?_)
      | (with_reducible refine LeO.bind ?_ (fun _ => ?_))
      | exact ih0 _ _
      | exact LeO.none _
      | refine LeO.ite ?_ ?_
      | refine LeO.bind ?_ (fun _ => ?_)
theorem accountingref06_Code.mono : ∀ a0 k, LeO (accountingref06_Code.f k a0) (accountingref06_Code.f (k + 1) a0) := by
 intro a0 k
 have ih0 := accountingref06_Code.mono_l k
 unfold accountingref06_Code.f
 repeat' first
   | (with_reducible exact ih0 _ _)
   | (with_reducible exact LeO.refl _)
   | (with_reducible exact LeO.none _)
   | (with_reducible refine LeO.ite ?_ ?_)
   | (with_reducible refine LeO.bind ?_ (fun _ => ?_))
   | exact ih0 _ _
   | exact LeO.none _
   | refine LeO.ite ?_ ?_
   | refine LeO.bind ?_ (fun _ => ?_)
set_option maxHeartbeats 8000000 in
set_option maxRecDepth 100000 in
theorem accountingref06_Code.calls (k : Nat) (a0 : ByteArray) (r : Bool) (w : World) (h : accountingref06_Code.f k a0 = some r) :
    Calls Try.prog 35 #[.string a0] w fun e w' => e = .returned (.bool r) ∧ Drawn0 w w' := by
 have H : (accountingref06_Code.l0 k a0 0) = some r := h
 clear h
 have H' := Aside0.mk H
 clear H
 go_enter Try.func35, Try.ntmps35
 go_wp2
 go_loopg [3] k (fun kq v3 w' => ∃ (x3_1 : Int), v3 = .int .i64 x3_1 ∧ Aside0 (accountingref06_Code.l0 kq a0 x3_1 = some r) ∧ Aside0 (kq ≤ k) ∧ Drawn0 w w')
 case atStart => exact ⟨(0), (by first | rfl | (simp; done) | (simp [*]; done)), H', ⟨Nat.le_refl _⟩, by repeat (first | exact Drawn0.refl _ | apply Drawn0.step)⟩
 case round =>
  clear H'
  obtain ⟨x3_1, rfl, HA, HK1, ⟨m1, rfl⟩⟩ := hrel
  cases gk with
  | zero => exact absurd HA.out (by simp [accountingref06_Code.l0])
  | succ k1 =>
   have H := HA.out
   clear HA
   simp only [accountingref06_Code.l0] at H
   by_cases c2 : x3_1 < (a0.size : Int)
   ·rw [if_pos c2] at H
    have c2b0 : decide (x3_1 < (a0.size : Int)) = true := decide_eq_true c2
    clear c2
    by_cases c3 : 0 ≤ x3_1
    ·rw [if_pos c3] at H
     have c3b0 : decide (0 ≤ x3_1) = true := decide_eq_true c3
     clear c3
     replace H := Option.bind_eq_some_iff.mp H
     obtain ⟨t101, A50, H⟩ := H
     replace H : (if t101 = true then (accountingref06_Code.l0 k1 a0 (wrap64 (x3_1 + 1))) else ((accountingref06_digit.f (bt a0 x3_1)).bind fun t102 => (if t102 = true then (accountingref06_Code.l0 k1 a0 (wrap64 (x3_1 + 1))) else (some false)))) = some r := H
     have A5 := Aside0.mk A50
     clear A50
     by_cases c6 : t101 = true
     ·subst c6
      have H1 : (accountingref06_Code.l0 k1 a0 (wrap64 (x3_1 + 1))) = some r := by rw [if_pos rfl] at H; exact H
      clear H
      have H := H1
      clear H1
      have H' := Aside0.mk H
      clear H
      have p4 : 0 ≤ (x3_1 : Int) := of_decide_eq_true (by first | (with_reducible assumption) | assumption)
      have q4 : x3_1 < (a0.size : Int) := of_decide_eq_true (by first | (with_reducible assumption) | assumption)
      have hx4 := bt_at a0 x3_1
      replace p4 := eq_true p4
      replace q4 := eq_true q4
      go_wp2_with (first | ((with_reducible refine gate_callee (f := 56) rfl ?_); refine goesL_ (some 13) rfl rfl Try.func56 (by kernel_rfl) rfl #[.int .u8 (bt a0 x3_1)] rfl (by (try simp only [List.map_toArray, List.map_cons, List.map_nil]); first | done | rfl | (simp only [List.length_drop, List.length_take]; rfl)) ?_; (with_reducible refine (accountingref06_letter.calls (bt a0 x3_1) true _ A5.out).mono ?_); rintro e w' ⟨rfl, ⟨nd, rfl⟩⟩; refine ⟨_, rfl, ?_⟩))
      go_roundg k1
      case measure => have := HK1.out; omega
      case rel => exact ⟨(wrap64 (x3_1 + 1)), (by first | rfl | (simp; done) | (simp [*]; done)), H', ⟨by have := HK1.out; omega⟩, by repeat (first | exact Drawn0.refl _ | apply Drawn0.step)⟩
     ·replace c6 := Bool.eq_false_iff.mpr c6
      subst c6
      have H1 : ((accountingref06_digit.f (bt a0 x3_1)).bind fun t102 => (if t102 = true then (accountingref06_Code.l0 k1 a0 (wrap64 (x3_1 + 1))) else (some false))) = some r := by rw [if_neg (show ¬ (false = true) by decide)] at H; exact H
      clear H
      have H := H1
      clear H1
      replace H := Option.bind_eq_some_iff.mp H
      obtain ⟨t102, A80, H⟩ := H
      replace H : (if t102 = true then (accountingref06_Code.l0 k1 a0 (wrap64 (x3_1 + 1))) else (some false)) = some r := H
      have A8 := Aside0.mk A80
      clear A80
      by_cases c9 : t102 = true
      ·subst c9
       have H1 : (accountingref06_Code.l0 k1 a0 (wrap64 (x3_1 + 1))) = some r := by rw [if_pos rfl] at H; exact H
       clear H
       have H := H1
       clear H1
       have H' := Aside0.mk H
       clear H
       have p4 : 0 ≤ (x3_1 : Int) := of_decide_eq_true (by first | (with_reducible assumption) | assumption)
       have q4 : x3_1 < (a0.size : Int) := of_decide_eq_true (by first | (with_reducible assumption) | assumption)
       have hx4 := bt_at a0 x3_1
       replace p4 := eq_true p4
       replace q4 := eq_true q4
       go_wp2_with (first | ((with_reducible refine gate_callee (f := 56) rfl ?_); refine goesL_ (some 13) rfl rfl Try.func56 (by kernel_rfl) rfl #[.int .u8 (bt a0 x3_1)] rfl (by (try simp only [List.map_toArray, List.map_cons, List.map_nil]); first | done | rfl | (simp only [List.length_drop, List.length_take]; rfl)) ?_; (with_reducible refine (accountingref06_letter.calls (bt a0 x3_1) false _ A5.out).mono ?_); rintro e w' ⟨rfl, ⟨nd, rfl⟩⟩; refine ⟨_, rfl, ?_⟩; have p7 : 0 ≤ (x3_1 : Int) := of_decide_eq_true (by first | (with_reducible assumption) | assumption); have q7 : x3_1 < (a0.size : Int) := of_decide_eq_true (by first | (with_reducible assumption) | assumption); have hx7 := bt_at a0 x3_1; replace p7 := eq_true p7; replace q7 := eq_true q7) | (go_at_call 57; (with_reducible refine (accountingref06_digit.calls (bt a0 x3_1) true _ A8.out).mono ?_); rintro e w' ⟨rfl, ⟨nd, rfl⟩⟩))
       go_roundg k1
       case measure => have := HK1.out; omega
       case rel => exact ⟨(wrap64 (x3_1 + 1)), (by first | rfl | (simp; done) | (simp [*]; done)), H', ⟨by have := HK1.out; omega⟩, by repeat (first | exact Drawn0.refl _ | apply Drawn0.step)⟩
      ·replace c9 := Bool.eq_false_iff.mpr c9
       subst c9
       have H1 : (some false) = some r := by rw [if_neg (show ¬ (false = true) by decide)] at H; exact H
       clear H
       have H := H1
       clear H1
       obtain rfl := Option.some.inj H
       have p4 : 0 ≤ (x3_1 : Int) := of_decide_eq_true (by first | (with_reducible assumption) | assumption)
       have q4 : x3_1 < (a0.size : Int) := of_decide_eq_true (by first | (with_reducible assumption) | assumption)
       have hx4 := bt_at a0 x3_1
       replace p4 := eq_true p4
       replace q4 := eq_true q4
       go_wp2_with (first | ((with_reducible refine gate_callee (f := 56) rfl ?_); refine goesL_ (some 13) rfl rfl Try.func56 (by kernel_rfl) rfl #[.int .u8 (bt a0 x3_1)] rfl (by (try simp only [List.map_toArray, List.map_cons, List.map_nil]); first | done | rfl | (simp only [List.length_drop, List.length_take]; rfl)) ?_; (with_reducible refine (accountingref06_letter.calls (bt a0 x3_1) false _ A5.out).mono ?_); rintro e w' ⟨rfl, ⟨nd, rfl⟩⟩; refine ⟨_, rfl, ?_⟩; have p7 : 0 ≤ (x3_1 : Int) := of_decide_eq_true (by first | (with_reducible assumption) | assumption); have q7 : x3_1 < (a0.size : Int) := of_decide_eq_true (by first | (with_reducible assumption) | assumption); have hx7 := bt_at a0 x3_1; replace p7 := eq_true p7; replace q7 := eq_true q7) | (go_at_call 57; (with_reducible refine (accountingref06_digit.calls (bt a0 x3_1) false _ A8.out).mono ?_); rintro e w' ⟨rfl, ⟨nd, rfl⟩⟩))
       go_ret
       exact ⟨by first | rfl | (simp; done) | (simp [*]; done), by repeat (first | exact Drawn0.refl _ | apply Drawn0.step)⟩
    ·rw [if_neg c3] at H
     exact absurd H (by simp)
   ·rw [if_neg c2] at H
    have c2b0 : decide (x3_1 < (a0.size : Int)) = false := decide_eq_false c2
    clear c2
    by_cases c10 : (a0.size : Int) ≥ 1
    ·rw [if_pos c10] at H
     have c10b0 : decide (1 ≤ (a0.size : Int)) = true := decide_eq_true c10
     have c10b1 : decide (1 ≤ a0.size) = true := decide_eq_true (by omega)
     clear c10
     obtain rfl := Option.some.inj H
     go_wp2
     go_ret
     exact ⟨by first | rfl | (simp; done) | (simp [*]; done), by repeat (first | exact Drawn0.refl _ | apply Drawn0.step)⟩
    ·rw [if_neg c10] at H
     have c10b0 : decide (1 ≤ (a0.size : Int)) = false := decide_eq_false c10
     have c10b1 : decide (1 ≤ a0.size) = false := decide_eq_false (by omega)
     clear c10
     obtain rfl := Option.some.inj H
     go_wp2
     go_ret
     exact ⟨by first | rfl | (simp; done) | (simp [*]; done), by repeat (first | exact Drawn0.refl _ | apply Drawn0.step)⟩

end Go.Proofs.Ytoppdlideonjjaa.M
end
section
/- Codes of chapter 6: the program and its specification come to one closed form. -/
namespace Go.Proofs.Ytoppdlideonjjaa.M
open Go.RowKit Go.Proofs.YtoppdlideonjjaaW.PrintWords
set_option linter.unusedVariables false
set_option linter.unusedSimpArgs false
def letv (a : Int) : Bool := decide (97 ≤ a ∧ a ≤ 122) || (decide (65 ≤ a ∧ a ≤ 90) || a == 95)
def digv (a : Int) : Bool := decide (48 ≤ a ∧ a ≤ 57)
theorem words_letter.eq (a : Int) : words_letter.f a = some (letv a) := by
  unfold words_letter.f letv
  by_cases h1 : a ≥ 97 <;> by_cases h2 : a ≤ 122 <;> by_cases h3 : a ≥ 65 <;> by_cases h4 : a ≤ 90 <;> simp [h1, h2, h3, h4]
theorem words_digit.eq (a : Int) : words_digit.f a = some (digv a) := by
  unfold words_digit.f digv
  by_cases h1 : a ≥ 48 <;> by_cases h2 : a ≤ 57 <;> simp [h1, h2]
theorem accountingref06_letter.eq (a : Int) : accountingref06_letter.f a = some (letv a) := by
  unfold accountingref06_letter.f letv
  by_cases h1 : a ≥ 97 <;> by_cases h2 : a ≤ 122 <;> by_cases h3 : a ≥ 65 <;> by_cases h4 : a ≤ 90 <;> simp [h1, h2, h3, h4]
theorem accountingref06_digit.eq (a : Int) : accountingref06_digit.f a = some (digv a) := by
  unfold accountingref06_digit.f digv
  by_cases h1 : a ≥ 48 <;> by_cases h2 : a ≤ 57 <;> simp [h1, h2]
theorem words_Code_1.eq (a : Int) : words_Code_1.f a = some (letv a || digv a) := by
  unfold words_Code_1.f
  rw [words_letter.eq, words_digit.eq]
  cases letv a <;> simp
/-- n bytes from place i on are letters or digits. -/
def gall (b : ByteArray) : Nat → Nat → Bool
  | 0, _ => true
  | n + 1, i => (letv (bt b (i : Int)) || digv (bt b (i : Int))) && gall b n (i + 1)
def codev (b : ByteArray) : Bool := gall b b.size 0 && (decide ((b.size : Int) ≥ 1) && decide ((b.size : Int) ≤ 12))
theorem words_every.go (b : ByteArray) (hb : b.size ≤ 1000) : ∀ n i, i + n = b.size → Ev (fun k => words_every__words_Code_1.l0 k b (b.size : Int) (i : Int)) (gall b n i)
  | 0, i, h => by
    refine Ev.succ ?_
    simp only [words_every__words_Code_1.l0, if_neg (show ¬ (i : Int) < (b.size : Int) by omega)]
    exact Ev.const _
  | n + 1, i, h => by
    refine Ev.succ ?_
    simp only [words_every__words_Code_1.l0, if_pos (show (i : Int) < (b.size : Int) by omega), if_pos (show (0 : Int) ≤ (i : Int) by omega), words_Code_1.eq, Option.bind_some]
    unfold gall
    rw [w64 (n := (i : Int) + 1) (by omega) (by omega), show (i : Int) + 1 = ((i + 1 : Nat) : Int) by omega]
    cases (letv (bt b (i : Int)) || digv (bt b (i : Int))) with
    | false => exact Ev.const _
    | true =>
      simp only [if_true, Bool.true_and]
      exact words_every.go b hb n (i + 1) (by omega)
theorem size_nil (b : ByteArray) : b.toList = ([] : List UInt8) ↔ b.size = 0 := by
  rw [toList_nil_iff_emptyBytes]
  constructor
  · rintro rfl; rfl
  · intro h
    exact ByteArray.ext (Array.eq_empty_of_size_eq_zero h)
theorem words_Code.eq (b : ByteArray) : Ev (fun k => words_Code.f k b) (codev b) := by
  unfold words_Code.f codev
  by_cases c : b.toList = ([] : List UInt8)
  · have := (size_nil b).1 c
    simp only [if_pos c, decide_eq_false (show ¬ (b.size : Int) ≥ 1 by omega), Bool.false_and, Bool.and_false]
    exact Ev.const _
  · have h1 : b.size ≠ 0 := fun h => c ((size_nil b).2 h)
    simp only [if_neg c, decide_eq_true (show (b.size : Int) ≥ 1 by omega), Bool.true_and]
    by_cases e : (b.size : Int) ≤ 12
    · simp only [if_pos e, decide_eq_true e, Bool.and_true]
      unfold words_every__words_Code_1.f
      exact Ev.bind (words_every.go b (by omega) b.size 0 (by omega)) (Ev.const _)
    · simp only [if_neg e, decide_eq_false e, Bool.and_false]
      exact Ev.const _
theorem accountingref06_Code.go (b : ByteArray) (hb : b.size ≤ 1000000000000000) : ∀ n i, i + n = b.size → Ev (fun k => accountingref06_Code.l0 k b (i : Int)) (gall b n i && (decide ((b.size : Int) ≥ 1) && decide ((b.size : Int) ≤ 12)))
  | 0, i, h => by
    refine Ev.succ ?_
    simp only [accountingref06_Code.l0, if_neg (show ¬ (i : Int) < (b.size : Int) by omega), gall, Bool.true_and]
    by_cases c : (b.size : Int) ≥ 1
    · simp only [if_pos c, decide_eq_true c, Bool.true_and]; exact Ev.const _
    · simp only [if_neg c, decide_eq_false c, Bool.false_and]; exact Ev.const _
  | n + 1, i, h => by
    refine Ev.succ ?_
    simp only [accountingref06_Code.l0, if_pos (show (i : Int) < (b.size : Int) by omega), if_pos (show (0 : Int) ≤ (i : Int) by omega), accountingref06_letter.eq, accountingref06_digit.eq, Option.bind_some]
    unfold gall
    rw [w64 (n := (i : Int) + 1) (by omega) (by omega), show (i : Int) + 1 = ((i + 1 : Nat) : Int) by omega]
    cases letv (bt b (i : Int)) with
    | true =>
      simp only [if_true, Bool.true_or, Bool.true_and]
      exact accountingref06_Code.go b hb n (i + 1) (by omega)
    | false =>
      simp only [Bool.false_eq_true, if_false, Bool.false_or]
      cases digv (bt b (i : Int)) with
      | true =>
        simp only [if_true, Bool.true_and]
        exact accountingref06_Code.go b hb n (i + 1) (by omega)
      | false => exact Ev.const _
theorem accountingref06_Code.eq (b : ByteArray) (hb : b.size ≤ 1000000000000000) : Ev (fun k => accountingref06_Code.f k b) (codev b) := by
  unfold accountingref06_Code.f codev
  exact accountingref06_Code.go b hb b.size 0 (by omega)
end Go.Proofs.Ytoppdlideonjjaa.M
end
section
/- The plain arithmetic of the long division of a number of two words by one word, bit by bit. -/
namespace Go.Proofs.Ytoppdlideonjjaa.M.Dv
open Go.RowKit

theorem wrap_u64 (n : Int) : IntKind.u64.wrap n = n % 18446744073709551616 := by simp [IntKind.wrap, IntKind.bits, IntKind.signed]
theorem wraps_u64 (n : Int) (h₀ : 0 ≤ n) (h₁ : n < 2 ^ 64) : IntKind.u64.wrap n = n := by rw [wrap_u64]; omega

/-- What has been divided so far: the remainder that came in, and the upper bits of the word. -/
def yv (R W : Int) (g : Nat) : Int := R * 2 ^ (64 - g) + W / 2 ^ g
/-- The bounds of what comes in. -/
structure Ctx (R W c : Int) : Prop where
  c0 : 0 < c
  c1 : c < 18446744073709551616
  r0 : 0 ≤ R
  r1 : R < c
  w0 : 0 ≤ W
  w1 : W < 18446744073709551616
structure Inv (R W c : Int) (g : Nat) (r q : Int) : Prop where
  le : g ≤ 64
  rr : r = yv R W g % c
  qq : q = yv R W g / c

theorem pow_pos (n : Nat) : (0 : Int) < 2 ^ n := Int.pow_pos (by decide)

theorem half (W : Int) (g : Nat) : W / 2 ^ g = 2 * (W / 2 ^ (g + 1)) + (W / 2 ^ g) % 2 := by
  have h : W / 2 ^ (g + 1) = W / 2 ^ g / 2 := by
    rw [Int.pow_succ, Int.ediv_ediv_of_nonneg (Int.le_of_lt (pow_pos g))]
  rw [h]; omega

theorem yv_step (R W : Int) (g : Nat) (hg : g + 1 ≤ 64) : yv R W g = 2 * yv R W (g + 1) + (W / 2 ^ g) % 2 := by
  unfold yv
  have h1 : 64 - g = (64 - (g + 1)) + 1 := by omega
  rw [h1, Int.pow_succ]
  have h2 := half W g
  generalize (2 : Int) ^ (64 - (g + 1)) = p at *
  have : R * (p * 2) = 2 * (R * p) := by rw [← Int.mul_assoc, Int.mul_comm]
  rw [this]; omega

theorem yv_bound {R W c : Int} (h : Ctx R W c) (g : Nat) (hg : g ≤ 64) : 0 ≤ yv R W g ∧ yv R W g < c * 2 ^ (64 - g) := by
  unfold yv
  have hp := pow_pos g
  have hq := pow_pos (64 - g)
  have e : (2 : Int) ^ (64 - g) * 2 ^ g = 18446744073709551616 := by
    rw [← Int.pow_add]; have : 64 - g + g = 64 := by omega
    rw [this]; decide
  have hw0 : 0 ≤ W / 2 ^ g := Int.ediv_nonneg h.w0 (Int.le_of_lt hp)
  have hw1 : W / 2 ^ g < 2 ^ (64 - g) := by
    apply Int.ediv_lt_of_lt_mul hp
    rw [e]; exact h.w1
  have hr : R * 2 ^ (64 - g) ≤ (c - 1) * 2 ^ (64 - g) := Int.mul_le_mul_of_nonneg_right (by have := h.r1; omega) (Int.le_of_lt hq)
  have hr0 : 0 ≤ R * 2 ^ (64 - g) := Int.mul_nonneg h.r0 (Int.le_of_lt hq)
  have e2 : (c - 1) * 2 ^ (64 - g) = c * 2 ^ (64 - g) - 2 ^ (64 - g) := by rw [Int.sub_mul, Int.one_mul]
  omega

theorem r_bound {R W c : Int} (h : Ctx R W c) {g : Nat} {r q : Int} (i : Inv R W c g r q) : 0 ≤ r ∧ r < c := by
  rw [i.rr]; exact ⟨Int.emod_nonneg _ (by have := h.c0; omega), Int.emod_lt_of_pos _ h.c0⟩
theorem q_bound {R W c : Int} (h : Ctx R W c) {g : Nat} {r q : Int} (i : Inv R W c g r q) : 0 ≤ q ∧ q < 2 ^ (64 - g) := by
  have hb := yv_bound h g i.le
  rw [i.qq]
  refine ⟨Int.ediv_nonneg hb.1 (Int.le_of_lt h.c0), ?_⟩
  apply Int.ediv_lt_of_lt_mul h.c0
  rw [Int.mul_comm]; exact hb.2
theorem y_eq {R W c : Int} {g : Nat} {r q : Int} (i : Inv R W c g r q) : yv R W g = r + c * q := by
  rw [i.rr, i.qq]; exact (Int.emod_add_mul_ediv _ _).symm

theorem start {R W c : Int} (h : Ctx R W c) : Inv R W c 64 R 0 := by
  have : yv R W 64 = R := by
    unfold yv
    have := h.w0; have := h.w1
    simp; omega
  exact ⟨Nat.le_refl _, by rw [this, Int.emod_eq_of_lt h.r0 h.r1], by rw [this, Int.ediv_eq_zero_of_lt h.r0 h.r1]⟩

theorem bit_eq (x : Int) (h0 : 0 ≤ x) (h1 : x < 18446744073709551616) : bits .and .u64 x 1 = x % 2 :=
  bits_mask .u64 64 (by decide) wraps_u64 1 (by decide) x h0 (by simpa using h1)
theorem or_eq (x y : Int) (h0 : 0 ≤ x) (hx : x % 2 = 0) (h1 : x < 18446744073709551616) (hy0 : 0 ≤ y) (hy : y < 2) : bits .or .u64 x y = x + y :=
  bits_join .u64 64 (by decide) wraps_u64 1 x y h0 (by omega) (by omega) hy0 (by omega) (by omega)

theorem word_bound {R W c : Int} (h : Ctx R W c) (g : Nat) : 0 ≤ W / 2 ^ g ∧ W / 2 ^ g < 18446744073709551616 := by
  have hp := pow_pos g
  refine ⟨Int.ediv_nonneg h.w0 (Int.le_of_lt hp), ?_⟩
  apply Int.ediv_lt_of_lt_mul hp
  have := h.w1
  have h2 : (18446744073709551616 : Int) * 1 ≤ 18446744073709551616 * 2 ^ g := Int.mul_le_mul_of_nonneg_left (by omega) (by decide)
  omega

/-- The remainder, doubled, with the next bit. -/
theorem next_v {R W c : Int} (h : Ctx R W c) {g : Nat} {r q : Int} (i : Inv R W c (g + 1) r q) :
    bits .or .u64 (IntKind.u64.wrap (r * 2)) (bits .and .u64 (W / 2 ^ g) 1) = (r * 2) % 18446744073709551616 + (W / 2 ^ g) % 2 := by
  have hw := word_bound h g
  rw [bit_eq _ hw.1 hw.2, wrap_u64]
  have := r_bound h i
  exact or_eq _ _ (by omega) (by omega) (by omega) (by omega) (by omega)

theorem next {R W c : Int} (h : Ctx R W c) {g : Nat} {r q : Int} (i : Inv R W c (g + 1) r q) {r' q' : Int}
    (hr : r' + c * q' = 2 * r + (W / 2 ^ g) % 2 + c * (2 * q)) (h0 : 0 ≤ r') (h1 : r' < c) : Inv R W c g r' q' := by
  have hy := y_eq i
  have hs := yv_step R W g i.le
  have hu : r' + c * q' = yv R W g := by
    rw [hs, hy, hr]
    have : c * (2 * q) = 2 * (c * q) := by rw [← Int.mul_assoc, Int.mul_comm c 2, Int.mul_assoc]
    rw [this]; omega
  have := (Int.ediv_emod_unique (a := yv R W g) (b := c) (r := r') (q := q') h.c0).2 ⟨hu, h0, h1⟩
  exact ⟨by have := i.le; omega, this.2.symm, this.1.symm⟩

theorem q2 {R W c : Int} (h : Ctx R W c) {g : Nat} {r q : Int} (i : Inv R W c (g + 1) r q) : 0 ≤ q ∧ q * 2 < 18446744073709551616 ∧ IntKind.u64.wrap (q * 2) = q * 2 := by
  have hq := q_bound h i
  have : (2 : Int) ^ (64 - (g + 1)) ≤ 2 ^ 63 := by
    have hn : (2 : Nat) ^ (64 - (g + 1)) ≤ 2 ^ 63 := Nat.pow_le_pow_right (by decide) (by omega)
    exact_mod_cast hn
  have e : (2 : Int) ^ 63 = 9223372036854775808 := by decide
  refine ⟨hq.1, by omega, ?_⟩
  rw [wrap_u64]; omega

/-- A one: the divisor fits. -/
theorem one {R W c : Int} (h : Ctx R W c) {g : Nat} {r q : Int} (i : Inv R W c (g + 1) r q)
    (hc : 9223372036854775808 ≤ r ∨ c ≤ (r * 2) % 18446744073709551616 + (W / 2 ^ g) % 2) :
    Inv R W c g (IntKind.u64.wrap (bits .or .u64 (IntKind.u64.wrap (r * 2)) (bits .and .u64 (W / 2 ^ g) 1) - c)) (bits .or .u64 (IntKind.u64.wrap (q * 2)) 1) := by
  rw [next_v h i, wrap_u64]
  obtain ⟨q0, q1, q2⟩ := q2 h i
  rw [q2, or_eq _ _ (by omega) (by omega) (by omega) (by omega) (by omega)]
  have hr := r_bound h i
  have := h.c0; have := h.c1
  generalize hb : (W / 2 ^ g) % 2 = b at *
  have hb2 : b = 0 ∨ b = 1 := by omega
  have e : (r * 2 % 18446744073709551616 + b - c) % 18446744073709551616 = r * 2 + b - c := by omega
  rw [e]
  refine next h i ?_ (by omega) (by omega)
  rw [hb, Int.mul_add, Int.mul_one, Int.mul_comm q 2]; omega
/-- A zero: it doesn't. -/
theorem zero {R W c : Int} (h : Ctx R W c) {g : Nat} {r q : Int} (i : Inv R W c (g + 1) r q)
    (h2 : r < 9223372036854775808) (hc : (r * 2) % 18446744073709551616 + (W / 2 ^ g) % 2 < c) :
    Inv R W c g (bits .or .u64 (IntKind.u64.wrap (r * 2)) (bits .and .u64 (W / 2 ^ g) 1)) (IntKind.u64.wrap (q * 2)) := by
  rw [next_v h i]
  obtain ⟨q0, q1, q2⟩ := q2 h i
  rw [q2]
  have hr := r_bound h i
  have := h.c0; have := h.c1
  generalize hb : (W / 2 ^ g) % 2 = b at *
  have hb2 : b = 0 ∨ b = 1 := by omega
  have e : r * 2 % 18446744073709551616 + b = r * 2 + b := by omega
  rw [e] at hc ⊢
  refine next h i ?_ (by omega) (by omega)
  rw [hb, Int.mul_comm q 2]; omega
/-- Nothing is left. -/
theorem rest {R W c : Int} (h : Ctx R W c) {g : Nat} {q : Int} (i : Inv R W c (g + 1) 0 q) (hz : IntKind.u64.wrap (W * 2 ^ (63 - g)) = 0) :
    Inv R W c 0 0 (IntKind.u64.wrap (q * 2 ^ (g + 1))) := by
  have hy := y_eq i
  have hp := pow_pos (g + 1)
  have hle := i.le
  rw [wrap_u64] at hz
  have e : (2 : Int) ^ (63 - g) * 2 ^ (g + 1) = 18446744073709551616 := by
    rw [← Int.pow_add]; have : 63 - g + (g + 1) = 64 := by omega
    rw [this]; decide
  have hd : W % 2 ^ (g + 1) = 0 := by
    obtain ⟨k, hk⟩ := Int.dvd_of_emod_eq_zero hz
    rw [← e, Int.mul_assoc, Int.mul_comm W] at hk
    have := Int.eq_of_mul_eq_mul_left (by have := pow_pos (63 - g); omega) hk
    rw [this]; exact Int.mul_emod_right _ _
  have hW : W = 2 ^ (g + 1) * (W / 2 ^ (g + 1)) := by have := Int.emod_add_mul_ediv W (2 ^ (g + 1)); omega
  have e64 : (2 : Int) ^ (64 - (g + 1)) * 2 ^ (g + 1) = 18446744073709551616 := by
    rw [← Int.pow_add]; have : 64 - (g + 1) + (g + 1) = 64 := by omega
    rw [this]; decide
  have h0 : yv R W 0 = c * (q * 2 ^ (g + 1)) := by
    have : yv R W 0 = 2 ^ (g + 1) * yv R W (g + 1) := by
      unfold yv
      rw [Int.mul_add, ← hW]
      have : (2 : Int) ^ (g + 1) * (R * 2 ^ (64 - (g + 1))) = R * 18446744073709551616 := by
        rw [← e64, Int.mul_comm, Int.mul_assoc]
      rw [this]; simp
    rw [this, hy, Int.zero_add, Int.mul_comm, Int.mul_assoc]
  have hq := q_bound h i
  have hlt : q * 2 ^ (g + 1) < 18446744073709551616 := by
    rw [← e64]; exact Int.mul_lt_mul_of_pos_right hq.2 hp
  have hge : 0 ≤ q * 2 ^ (g + 1) := Int.mul_nonneg hq.1 (Int.le_of_lt hp)
  rw [wrap_u64, Int.emod_eq_of_lt hge hlt]
  have hc := h.c0
  exact ⟨by omega, by rw [h0, Int.mul_emod_right], by rw [h0, Int.mul_ediv_cancel_left _ (by omega)]⟩
theorem fin {R W c : Int} {r q : Int} (i : Inv R W c 0 r q) (_h : Ctx R W c) : r = (R * 18446744073709551616 + W) % c ∧ q = (R * 18446744073709551616 + W) / c := by
  have : yv R W 0 = R * 18446744073709551616 + W := by unfold yv; simp
  exact ⟨by rw [i.rr, this], by rw [i.qq, this]⟩

/-- The upper word of the quotient, the lower one, the remainder. -/
def qh (a0 c : Int) : Int := a0 / c
def ql (a0 a1 c : Int) : Int := (a0 % c * 18446744073709551616 + a1) / c
def rm (a0 a1 c : Int) : Int := (a0 % c * 18446744073709551616 + a1) % c
/-! The product of two words, by halves. -/
theorem mask_eq (x : Int) (h0 : 0 ≤ x) (h1 : x < 18446744073709551616) : bits .and .u64 x 4294967295 = x % 4294967296 :=
  bits_mask .u64 64 (by decide) wraps_u64 32 (by decide) x h0 (by omega)
theorem or32_eq (x y : Int) (h0 : 0 ≤ x) (hx : x % 4294967296 = 0) (h1 : x < 18446744073709551616) (hy0 : 0 ≤ y) (hy : y < 4294967296) : bits .or .u64 x y = x + y :=
  bits_join .u64 64 (by decide) wraps_u64 32 x y h0 (by omega) (by omega) hy0 (by omega) (by omega)
def mbot (a b : Int) : Int := IntKind.u64.wrap (bits .and .u64 a 4294967295 * bits .and .u64 b 4294967295)
def mmid (a b : Int) : Int := IntKind.u64.wrap (IntKind.u64.wrap (a / 4294967296 * bits .and .u64 b 4294967295) + mbot a b / 4294967296)
def moth (a b : Int) : Int := IntKind.u64.wrap (IntKind.u64.wrap (bits .and .u64 a 4294967295 * (b / 4294967296)) + bits .and .u64 (mmid a b) 4294967295)
def mhi (a b : Int) : Int := IntKind.u64.wrap (IntKind.u64.wrap (IntKind.u64.wrap (a / 4294967296 * (b / 4294967296)) + mmid a b / 4294967296) + moth a b / 4294967296)
def mlo (a b : Int) : Int := bits .or .u64 (IntKind.u64.wrap (moth a b * 4294967296)) (bits .and .u64 (mbot a b) 4294967295)
theorem prod_le (x y : Int) (h0 : 0 ≤ x) (h1 : x < 4294967296) (h2 : 0 ≤ y) (h3 : y < 4294967296) : 0 ≤ x * y ∧ x * y ≤ 18446744065119617025 := by
  refine ⟨Int.mul_nonneg h0 h2, ?_⟩
  have h4 : x * y ≤ 4294967295 * y := Int.mul_le_mul_of_nonneg_right (by omega) h2
  omega
theorem mul_words (a b : Int) (ha0 : 0 ≤ a) (ha1 : a < 18446744073709551616) (hb0 : 0 ≤ b) (hb1 : b < 18446744073709551616) :
    mhi a b = a * b / 18446744073709551616 ∧ mlo a b = a * b % 18446744073709551616 := by
  have e : a * b = (a / 4294967296) * (b / 4294967296) * 18446744073709551616 + ((a / 4294967296) * (b % 4294967296) + (a % 4294967296) * (b / 4294967296)) * 4294967296 + (a % 4294967296) * (b % 4294967296) := by
    have h1 : a = a / 4294967296 * 4294967296 + a % 4294967296 := by omega
    have h2 : b = b / 4294967296 * 4294967296 + b % 4294967296 := by omega
    generalize a / 4294967296 = x at *
    generalize b / 4294967296 = u at *
    generalize a % 4294967296 = y at *
    generalize b % 4294967296 = v at *
    subst h1 h2
    rw [Int.add_mul, Int.mul_add, Int.mul_add]
    have e1 : x * 4294967296 * (u * 4294967296) = x * u * 18446744073709551616 := by rw [Int.mul_assoc x, Int.mul_left_comm 4294967296 u, ← Int.mul_assoc x]; rfl
    have e2 : x * 4294967296 * v = x * v * 4294967296 := Int.mul_right_comm _ _ _
    have e3 : y * (u * 4294967296) = y * u * 4294967296 := (Int.mul_assoc _ _ _).symm
    rw [e1, e2, e3]; omega
  have hm := mask_eq a ha0 ha1
  have hn := mask_eq b hb0 hb1
  have p1 := prod_le (a / 4294967296) (b / 4294967296) (by omega) (by omega) (by omega) (by omega)
  have p2 := prod_le (a / 4294967296) (b % 4294967296) (by omega) (by omega) (by omega) (by omega)
  have p3 := prod_le (a % 4294967296) (b / 4294967296) (by omega) (by omega) (by omega) (by omega)
  have p4 := prod_le (a % 4294967296) (b % 4294967296) (by omega) (by omega) (by omega) (by omega)
  have hbot : mbot a b = (a % 4294967296) * (b % 4294967296) := by
    unfold mbot; rw [hm, hn, wrap_u64]; omega
  have hmid : mmid a b = (a / 4294967296) * (b % 4294967296) + (a % 4294967296) * (b % 4294967296) / 4294967296 := by
    unfold mmid; rw [hbot, hn, wrap_u64, wrap_u64]; omega
  have hk := mask_eq (mmid a b) (by omega) (by omega)
  have hoth : moth a b = (a % 4294967296) * (b / 4294967296) + mmid a b % 4294967296 := by
    unfold moth; rw [hk, hm, wrap_u64, wrap_u64]; omega
  have hl := mask_eq (mbot a b) (by omega) (by omega)
  refine ⟨?_, ?_⟩
  · unfold mhi
    rw [wrap_u64, wrap_u64, wrap_u64, e]
    generalize (a / 4294967296) * (b / 4294967296) = P1 at *
    generalize (a / 4294967296) * (b % 4294967296) = P2 at *
    generalize (a % 4294967296) * (b / 4294967296) = P3 at *
    generalize (a % 4294967296) * (b % 4294967296) = P4 at *
    clear e hl hk hm hn
    generalize mmid a b = M at *
    generalize moth a b = O at *
    have e1 : (P1 * 18446744073709551616 + (P2 + P3) * 4294967296 + P4) / 18446744073709551616 = P1 + M / 4294967296 + O / 4294967296 := by omega
    have hM : 0 ≤ M / 4294967296 ∧ M / 4294967296 ≤ 4294967294 := by omega
    have hO : 0 ≤ O / 4294967296 ∧ O / 4294967296 ≤ 4294967295 := by omega
    rw [e1]
    clear e1 hmid hoth hbot
    generalize M / 4294967296 = m1 at *
    generalize O / 4294967296 = o1 at *
    rw [Int.emod_eq_of_lt p1.1 (by omega), Int.emod_eq_of_lt (by omega) (by omega), Int.emod_eq_of_lt (by omega) (by omega)]
  · unfold mlo
    rw [hl, wrap_u64, or32_eq _ _ (by omega) (by omega) (by omega) (by omega) (by omega), e]; omega
theorem mul_bounds (a b : Int) (ha0 : 0 ≤ a) (ha1 : a < 18446744073709551616) (hb0 : 0 ≤ b) (hb1 : b < 18446744073709551616) :
    0 ≤ a * b / 18446744073709551616 ∧ a * b / 18446744073709551616 < 18446744073709551616 := by
  refine ⟨Int.ediv_nonneg (Int.mul_nonneg ha0 hb0) (by decide), ?_⟩
  apply Int.ediv_lt_of_lt_mul (by decide)
  have h1 : a * b ≤ 18446744073709551615 * b := Int.mul_le_mul_of_nonneg_right (by omega) hb0
  omega
/-! What MulDiv, Mod and Cmp come to. -/
def inI (x : Int) : Prop := -9223372036854775808 ≤ x ∧ x ≤ 9223372036854775807
instance (x : Int) : Decidable (inI x) := by unfold inI; infer_instance
def ab (x : Int) : Int := if x < 0 then -x else x
theorem ab_bound {x : Int} (h : inI x) : 0 ≤ ab x ∧ ab x ≤ 9223372036854775808 := by
  unfold ab; unfold inI at h; split <;> omega
theorem ab_pos {x : Int} (h : x ≠ 0) : 0 < ab x := by unfold ab; split <;> omega
theorem ab_zero (x : Int) : ab x = 0 ↔ x = 0 := by unfold ab; split <;> omega
/-- Is the result rounded away from zero? -/
def awayv (mode : Int) (neg : Bool) (q r c : Int) : Bool :=
  decide (r ≠ 0) && (decide (mode = 2) || (decide (mode = 3) && decide (c - r ≤ r)) || (decide (mode = 4) && (decide (c - r < r) || (decide (r = c - r) && decide (q % 2 = 1)))) || (decide (mode = 5) && neg))
def negv (a b c : Int) : Bool := (decide (a * b ≠ 0)) && (((decide (a < 0)) != (decide (b < 0))) != (decide (c < 0)))
def sizev (a b c mode : Int) : Int := ab a * ab b / ab c + if awayv mode (negv a b c) (ab a * ab b / ab c) (ab a * ab b % ab c) (ab c) = true then 1 else 0
def signv (neg : Bool) (size : Int) : Int × Int :=
  if neg = true then (if size > 9223372036854775808 then (0, 4) else (-size, 0)) else (if size ≥ 9223372036854775808 then (0, 4) else (size, 0))
def mdv (a b c mode : Int) : Int × Int :=
  if mode < 1 ∨ mode > 5 then (0, 10) else if c = 0 then (0, 2) else signv (negv a b c) (sizev a b c mode)
def modv (a b c : Int) : Int × Int := if c = 0 then (0, 2) else ((a * b) % ab c, 0)

/-- The two words of a product, divided by a word. -/
theorem div_words (P c : Int) (_h0 : 0 ≤ P) (hc : 0 < c) :
    qh (P / 18446744073709551616) c * 18446744073709551616 + ql (P / 18446744073709551616) (P % 18446744073709551616) c = P / c ∧ rm (P / 18446744073709551616) (P % 18446744073709551616) c = P % c := by
  unfold qh ql rm
  have hP : P = (P / 18446744073709551616) * 18446744073709551616 + P % 18446744073709551616 := by omega
  generalize P / 18446744073709551616 = hi at *
  generalize P % 18446744073709551616 = lo at *
  have hh : hi = c * (hi / c) + hi % c := by have := Int.emod_add_mul_ediv hi c; omega
  have e : P = c * (hi / c * 18446744073709551616) + (hi % c * 18446744073709551616 + lo) := by
    rw [hP]
    conv => lhs; rw [hh]
    rw [Int.add_mul, ← Int.mul_assoc]; omega
  rw [e]
  refine ⟨?_, ?_⟩
  · rw [Int.add_comm (c * _), Int.add_mul_ediv_left _ _ (by omega)]; omega
  · rw [Int.mul_add_emod_self_left]
theorem qh_zero (P c : Int) (h0 : 0 ≤ P) (hc : 0 < c) : qh (P / 18446744073709551616) c = 0 ↔ P / c < 18446744073709551616 := by
  have h := (div_words P c h0 hc).1
  have h1 : 0 ≤ qh (P / 18446744073709551616) c := Int.ediv_nonneg (by omega) (by omega)
  have h2 : 0 ≤ ql (P / 18446744073709551616) (P % 18446744073709551616) c ∧ ql (P / 18446744073709551616) (P % 18446744073709551616) c < 18446744073709551616 := by
    unfold ql
    have h3 := Int.emod_nonneg (P / 18446744073709551616) (show c ≠ 0 by omega)
    have h4 := Int.emod_lt_of_pos (P / 18446744073709551616) hc
    refine ⟨Int.ediv_nonneg (by omega) (by omega), ?_⟩
    apply Int.ediv_lt_of_lt_mul hc
    omega
  omega
theorem ctx0 {P c : Int} (h0 : 0 ≤ P) (h1 : P < 18446744073709551616 * 18446744073709551616) (hc : 0 < c) (hc1 : c < 18446744073709551616) : Ctx 0 (P / 18446744073709551616) c ∧ Ctx (P / 18446744073709551616 % c) (P % 18446744073709551616) c :=
  ⟨⟨hc, hc1, by omega, hc, by omega, by omega⟩, ⟨hc, hc1, Int.emod_nonneg _ (by omega), Int.emod_lt_of_pos _ hc, by omega, by omega⟩⟩
theorem prod_ab {a b : Int} (ha : inI a) (hb : inI b) : 0 ≤ ab a * ab b ∧ ab a * ab b < 18446744073709551616 * 18446744073709551616 := by
  have h1 := ab_bound ha; have h2 := ab_bound hb
  refine ⟨Int.mul_nonneg h1.1 h2.1, ?_⟩
  have h4 : ab a * ab b ≤ 9223372036854775808 * ab b := Int.mul_le_mul_of_nonneg_right h1.2 h2.1
  omega
end Go.Proofs.Ytoppdlideonjjaa.M.Dv
end
section
-- Written by mprint.py (a program of this session) over the kit's print.
namespace Go.Proofs.Ytoppdlideonjjaa.M
open Go.RowKit Go.Proofs.YtoppdlideonjjaaW.PrintWords Go.Proofs.YtoppdlideonjjaaW.PrintLast Go.Proofs.YtoppdlideonjjaaW.PrintMore
attribute [local go_sem] max2_int min2_int max_two min_two max_three min_three max_four min_four   -- for this text's walks alone
set_option linter.unusedVariables false
set_option linter.unusedSimpArgs false

/-! ### frac_size: function 47 -/
def frac_size.f (a0 : Int) : Option (Int) := if a0 < 0 then (some (IntKind.u64.wrap (-(IntKind.u64.wrap (a0))))) else (some (IntKind.u64.wrap (a0)))
set_option maxHeartbeats 8000000 in
set_option maxRecDepth 100000 in
theorem frac_size.calls (a0 : Int) (r : Int) (w : World) (h : frac_size.f a0 = some r) :
    Calls Try.prog 47 #[.int .i64 a0] w fun e w' => e = .returned (.int .u64 r) ∧ Drawn0 w w' := by
 have H : (if a0 < 0 then (some (IntKind.u64.wrap (-(IntKind.u64.wrap (a0))))) else (some (IntKind.u64.wrap (a0)))) = some r := h
 clear h
 by_cases c2 : a0 < 0
 ·rw [if_pos c2] at H
  have c2b0 : decide (a0 < 0) = true := decide_eq_true c2
  clear c2
  obtain rfl := Option.some.inj H
  go_enter Try.func47, Try.ntmps47
  go_wp2
  go_ret
  exact ⟨by first | rfl | (simp; done) | (simp [*]; done), by repeat (first | exact Drawn0.refl _ | apply Drawn0.step)⟩
 ·rw [if_neg c2] at H
  have c2b0 : decide (a0 < 0) = false := decide_eq_false c2
  clear c2
  obtain rfl := Option.some.inj H
  go_enter Try.func47, Try.ntmps47
  go_wp2
  go_ret
  exact ⟨by first | rfl | (simp; done) | (simp [*]; done), by repeat (first | exact Drawn0.refl _ | apply Drawn0.step)⟩

end Go.Proofs.Ytoppdlideonjjaa.M
end
section
-- Written by mprint.py (a program of this session) over the kit's print.
namespace Go.Proofs.Ytoppdlideonjjaa.M
open Go.RowKit Go.Proofs.YtoppdlideonjjaaW.PrintWords Go.Proofs.YtoppdlideonjjaaW.PrintLast Go.Proofs.YtoppdlideonjjaaW.PrintMore
attribute [local go_sem] max2_int min2_int max_two min_two max_three min_three max_four min_four   -- for this text's walks alone
set_option linter.unusedVariables false
set_option linter.unusedSimpArgs false

/-! ### frac_gcd: function 48 -/
def frac_gcd.l0 : Nat → Int → Int → Option (Int)
  | 0, _, _ => none
  | k + 1, x0, x1 => if x1 = 0 then (some x0) else (frac_gcd.l0 k x1 (Int.tmod x0 x1))
def frac_gcd.f (k : Nat) (a0 : Int) (a1 : Int) : Option (Int) := frac_gcd.l0 k a0 a1
theorem frac_gcd.mono_l : ∀ k, (∀ y0 y1, LeO (frac_gcd.l0 k y0 y1) (frac_gcd.l0 (k + 1) y0 y1))
  | 0 => fun _ _ r h => by simp [frac_gcd.l0] at h
  | k + 1 => by
    have ih0 := frac_gcd.mono_l k
    · intro y0 y1
      unfold frac_gcd.l0
      repeat' first
      | (with_reducible exact ih0 _ _)
      | (with_reducible exact LeO.refl _)
      | (with_reducible exact LeO.none _)
      | (with_reducible refine LeO.ite ?_ ?_)
      | (with_reducible refine LeO.bind ?_ (fun _ => ?_))
      | exact ih0 _ _
      | exact LeO.none _
      | refine LeO.ite ?_ ?_
      | refine LeO.bind ?_ (fun _ => ?_)
theorem frac_gcd.mono : ∀ a0 a1 k, LeO (frac_gcd.f k a0 a1) (frac_gcd.f (k + 1) a0 a1) := by
 intro a0 a1 k
 have ih0 := frac_gcd.mono_l k
 unfold frac_gcd.f
 repeat' first
   | (with_reducible exact ih0 _ _)
   | (with_reducible exact LeO.refl _)
   | (with_reducible exact LeO.none _)
   | (with_reducible refine LeO.ite ?_ ?_)
   | (with_reducible refine LeO.bind ?_ (fun _ => ?_))
   | exact ih0 _ _
   | exact LeO.none _
   | refine LeO.ite ?_ ?_
   | refine LeO.bind ?_ (fun _ => ?_)
set_option maxHeartbeats 8000000 in
set_option maxRecDepth 100000 in
theorem frac_gcd.calls (k : Nat) (a0 : Int) (a1 : Int) (r : Int) (w : World) (h : frac_gcd.f k a0 a1 = some r) :
    Calls Try.prog 48 #[.int .u64 a0, .int .u64 a1] w fun e w' => e = .returned (.int .u64 r) ∧ Drawn0 w w' := by
 have H : (frac_gcd.l0 k a0 a1) = some r := h
 clear h
 have H' := Aside0.mk H
 clear H
 go_enter Try.func48, Try.ntmps48
 go_wp2
 repeat (go_quiet (fail); try go_wp2)
 go_loopg [0, 1] k (fun kq v0 v1 w' => ∃ (x0_1 : Int) (x1_1 : Int), v0 = .int .u64 x0_1 ∧ v1 = .int .u64 x1_1 ∧ Aside0 (frac_gcd.l0 kq x0_1 x1_1 = some r) ∧ Aside0 (kq ≤ k) ∧ Drawn0 w w')
 case atStart => exact ⟨(a0), (a1), (by first | rfl | (simp; done) | (simp [*]; done)), (by first | rfl | (simp; done) | (simp [*]; done)), H', ⟨Nat.le_refl _⟩, by repeat (first | exact Drawn0.refl _ | apply Drawn0.step)⟩
 case round =>
  clear H'
  try clear p2
  obtain ⟨x0_1, x1_1, rfl, rfl, HA, HK1, ⟨m1, rfl⟩⟩ := hrel
  cases gk with
  | zero => exact absurd HA.out (by simp [frac_gcd.l0])
  | succ k1 =>
   have H := HA.out
   clear HA
   simp only [frac_gcd.l0] at H
   by_cases c3 : x1_1 = 0
   ·rw [if_pos c3] at H
    have c3b0 : (x1_1 == 0) = true := beq_iff_eq.mpr c3
    have c3b1 : (x1_1 != 0) = false := bne_eq_false_iff_eq.mpr c3
    clear c3
    obtain rfl := Option.some.inj H
    go_wp2
    repeat (go_quiet (fail); try go_wp2)
    go_ret
    exact ⟨by first | rfl | (simp; done) | (simp [*]; done), by repeat (first | exact Drawn0.refl _ | apply Drawn0.step)⟩
   ·rw [if_neg c3] at H
    have c3b0 : (x1_1 == 0) = false := beq_eq_false_iff_ne.mpr c3
    have c3b1 : (x1_1 != 0) = true := bne_iff_ne.mpr c3
    have H' := Aside0.mk H
    clear H
    go_wp2
    repeat (go_quiet (fail); try go_wp2)
    go_roundg k1
    case measure => have := HK1.out; omega
    case rel => exact ⟨(x1_1), (Int.tmod x0_1 x1_1), (by first | rfl | (simp; done) | (simp [*]; done)), (by first | rfl | (simp; done) | (simp [*]; done)), H', ⟨by have := HK1.out; omega⟩, by repeat (first | exact Drawn0.refl _ | apply Drawn0.step)⟩

end Go.Proofs.Ytoppdlideonjjaa.M
end
section
-- Written by mprint.py (a program of this session) over the kit's print.
namespace Go.Proofs.Ytoppdlideonjjaa.M
open Go.RowKit Go.Proofs.YtoppdlideonjjaaW.PrintWords Go.Proofs.YtoppdlideonjjaaW.PrintLast Go.Proofs.YtoppdlideonjjaaW.PrintMore
attribute [local go_sem] max2_int min2_int max_two min_two max_three min_three max_four min_four   -- for this text's walks alone
set_option linter.unusedVariables false
set_option linter.unusedSimpArgs false

/-! ### frac_Right: function 55 -/
def frac_Right.j0 : Nat → Bool → Int → Int → Option (Bool)
  | 0, _, _, _ => none
  | k + 1, x16, x102000, x102001 => if x16 = true then (some false) else ((frac_size.f x102000).bind fun t103 => ((frac_size.f x102001).bind fun t104 => ((frac_gcd.f k t103 t104).bind fun t105 => (some (t105 == 1)))))
def frac_Right.f (k : Nat) (a0_0 : Int) (a0_1 : Int) : Option (Bool) := if a0_1 < 1 then (frac_Right.j0 k true a0_0 a0_1) else (if a0_1 > 1000000 then (frac_Right.j0 k true a0_0 a0_1) else ((frac_size.f a0_0).bind fun t102 => (frac_Right.j0 k (decide (t102 > 1000000)) a0_0 a0_1)))
theorem frac_Right.mono_l : ∀ k, (∀ y0 y1 y2, LeO (frac_Right.j0 k y0 y1 y2) (frac_Right.j0 (k + 1) y0 y1 y2))
  | 0 => fun _ _ _ r h => by simp [frac_Right.j0] at h
  | k + 1 => by
    have ih0 := frac_Right.mono_l k
    · intro y0 y1 y2
      unfold frac_Right.j0
      repeat' first
      | (with_reducible exact ih0 _ _ _)
      | (with_reducible exact frac_gcd.mono _ _ _)
      | (with_reducible exact LeO.refl _)
      | (with_reducible exact LeO.none _)
      | (with_reducible refine LeO.ite ?_ ?_)
      | (with_reducible refine LeO.bind ?_ (fun _ => ?_))
      | exact ih0 _ _ _
      | exact frac_gcd.mono _ _ _
      | exact LeO.none _
      | refine LeO.ite ?_ ?_
      | refine LeO.bind ?_ (fun _ => ?_)
theorem frac_Right.mono : ∀ a0 a1 k, LeO (frac_Right.f k a0 a1) (frac_Right.f (k + 1) a0 a1) := by
 intro a0 a1 k
 have ih0 := frac_Right.mono_l k
 unfold frac_Right.f
 repeat' first
   | (with_reducible exact ih0 _ _ _)
   | (with_reducible exact frac_gcd.mono _ _ _)
   | (with_reducible exact LeO.refl _)
   | (with_reducible exact LeO.none _)
   | (with_reducible refine LeO.ite ?_ ?_)
   | (with_reducible refine LeO.bind ?_ (fun _ => ?_))
   | exact ih0 _ _ _
   | exact frac_gcd.mono _ _ _
   | exact LeO.none _
   | refine LeO.ite ?_ ?_
   | refine LeO.bind ?_ (fun _ => ?_)
set_option maxHeartbeats 8000000 in
set_option maxRecDepth 100000 in
theorem frac_Right.calls (k : Nat) (a0_0 : Int) (a0_1 : Int) (r : Bool) (w : World) (h : frac_Right.f k a0_0 a0_1 = some r) :
    Calls Try.prog 55 #[.agg #[.int .i64 a0_0, .int .i64 a0_1]] w fun e w' => e = .returned (.bool r) ∧ Below w.heap.size w w' := by
 have hu35 := Try.underlying35
 have hu3 := Try.underlying3
 have HB := Aside0.mk (Below.refl w.heap.size w)
 have H : (if a0_1 < 1 then (frac_Right.j0 k true a0_0 a0_1) else (if a0_1 > 1000000 then (frac_Right.j0 k true a0_0 a0_1) else ((frac_size.f a0_0).bind fun t102 => (frac_Right.j0 k (decide (t102 > 1000000)) a0_0 a0_1)))) = some r := h
 clear h
 have HC2 := Aside0.mk H
 clear H
 go_enter Try.func55, Try.ntmps55
 go_upto_region 1 with (first | ((with_reducible refine gate_dst (N := 1) rfl ?_); refine box_event ?hg (N := 1) ?hd (cs := #[.int .i64 a0_0, .int .i64 a0_1]) (t := 35) ?hr ?_; (case hd => rfl); (case hg => rfl); (case hr => first | (go_simp; done) | (go_simp; rfl)); intro gb101 hg w3 hbox hb; have n0_ := Aside0.mk (below_step (by repeat (first | (with_reducible first | exact HB.out | apply below_alloc | apply pw_below_drewN | apply below_drew1) | exact HB.out)) hb); have n1_ := Aside0.mk (hbox); have n2_ := Aside0.mk ((by rw [hg]; exact (below_size (by repeat (first | (with_reducible first | exact HB.out | apply below_alloc | apply pw_below_drewN | apply below_drew1) | exact HB.out))) : w.heap.size ≤ gb101)); have n3_ := Aside0.mk ((by rw [hg]; exact (below_size (by repeat (first | (with_reducible first | exact HB.out | apply below_alloc | apply pw_below_drewN | apply below_drew1) | exact HB.out))) : w.heap.size ≤ gb101)); clear HB; have HB := n0_; have BK101 := n1_; have GW101 := n2_; have GE101 := n3_; clear n0_ n1_ n2_ n3_; clear hb hbox hg))
 repeat (go_quiet (first | ((with_reducible refine gate_dst (N := 1) rfl ?_); refine box_event ?hg (N := 1) ?hd (cs := #[.int .i64 a0_0, .int .i64 a0_1]) (t := 35) ?hr ?_; (case hd => rfl); (case hg => rfl); (case hr => first | (go_simp; done) | (go_simp; rfl)); intro gb101 hg w3 hbox hb; have n0_ := Aside0.mk (below_step (by repeat (first | (with_reducible first | exact HB.out | apply below_alloc | apply pw_below_drewN | apply below_drew1) | exact HB.out)) hb); have n1_ := Aside0.mk (hbox); have n2_ := Aside0.mk ((by rw [hg]; exact (below_size (by repeat (first | (with_reducible first | exact HB.out | apply below_alloc | apply pw_below_drewN | apply below_drew1) | exact HB.out))) : w.heap.size ≤ gb101)); have n3_ := Aside0.mk ((by rw [hg]; exact (below_size (by repeat (first | (with_reducible first | exact HB.out | apply below_alloc | apply pw_below_drewN | apply below_drew1) | exact HB.out))) : w.heap.size ≤ gb101)); clear HB; have HB := n0_; have BK101 := n1_; have GW101 := n2_; have GE101 := n3_; clear n0_ n1_ n2_ n3_; clear hb hbox hg)); go_upto_region 1 with (first | ((with_reducible refine gate_dst (N := 1) rfl ?_); refine box_event ?hg (N := 1) ?hd (cs := #[.int .i64 a0_0, .int .i64 a0_1]) (t := 35) ?hr ?_; (case hd => rfl); (case hg => rfl); (case hr => first | (go_simp; done) | (go_simp; rfl)); intro gb101 hg w3 hbox hb; have n0_ := Aside0.mk (below_step (by repeat (first | (with_reducible first | exact HB.out | apply below_alloc | apply pw_below_drewN | apply below_drew1) | exact HB.out)) hb); have n1_ := Aside0.mk (hbox); have n2_ := Aside0.mk ((by rw [hg]; exact (below_size (by repeat (first | (with_reducible first | exact HB.out | apply below_alloc | apply pw_below_drewN | apply below_drew1) | exact HB.out))) : w.heap.size ≤ gb101)); have n3_ := Aside0.mk ((by rw [hg]; exact (below_size (by repeat (first | (with_reducible first | exact HB.out | apply below_alloc | apply pw_below_drewN | apply below_drew1) | exact HB.out))) : w.heap.size ≤ gb101)); clear HB; have HB := n0_; have BK101 := n1_; have GW101 := n2_; have GE101 := n3_; clear n0_ n1_ n2_ n3_; clear hb hbox hg)))
 (try simp only [Act.put, List.setIfInBounds_toArray, List.set_cons_zero, List.set_cons_succ])
 go_cut [16] (fun v16 wc => ∃ (kq : Nat) (x16_1 : Bool), v16 = .bool x16_1 ∧ Aside0 (frac_Right.j0 kq x16_1 a0_0 a0_1 = some r) ∧ Aside0 (kq ≤ k) ∧ Aside0 (wc.heap[gb101]? = some (.cells #[.int .i64 a0_0, .int .i64 a0_1] 35 (0, 0))) ∧ Aside0 (Below w.heap.size w wc))
 case first =>
  have H := HC2.out
  clear HC2
  by_cases c4 : a0_1 < 1
  ·rw [if_pos c4] at H
   have c4b0 : decide (a0_1 < 1) = true := decide_eq_true c4
   clear c4
   (first | rw [c4b0] | (simp only [i64_w, i32_w]; rw [c4b0]) | skip)
   have H' := Aside0.mk H
   clear H
   have hcz5_0 : w3.cell? ⟨gb101, 0, none⟩ = some (.int .i64 a0_0) := (blk_cell BK101.out 0).trans rfl
   have hcz5_1 : w3.cell? ⟨gb101, 1, none⟩ = some (.int .i64 a0_1) := (blk_cell BK101.out 1).trans rfl
   have hfz5_0 := blk_frozen BK101.out 0
   have hfz5_1 := blk_frozen BK101.out 1
   go_wp2
   repeat (go_quiet (fail); try go_wp2)
   go_meet
   case rel => exact ⟨_, (true), (by first | rfl | (simp; done) | (simp [*]; done)), H', ⟨by first | omega | exact Nat.le_refl _⟩, ⟨by (with_reducible repeat (first | refine blk_drewN ?_ _ | refine blk_drew ?_ | refine blk_alloc ?_ _)); exact BK101.out⟩, ⟨by repeat (first | (with_reducible first | exact HB.out | apply below_alloc | apply pw_below_drewN | apply below_drew1 | refine below_set ?_ GE101.out) | exact HB.out)⟩⟩
  ·rw [if_neg c4] at H
   have c4b0 : decide (a0_1 < 1) = false := decide_eq_false c4
   clear c4
   (first | rw [c4b0] | (simp only [i64_w, i32_w]; rw [c4b0]) | skip)
   by_cases c6 : a0_1 > 1000000
   ·rw [if_pos c6] at H
    have c6b0 : decide (1000000 < a0_1) = true := decide_eq_true c6
    clear c6
    have H' := Aside0.mk H
    clear H
    have hcz7_0 : w3.cell? ⟨gb101, 0, none⟩ = some (.int .i64 a0_0) := (blk_cell BK101.out 0).trans rfl
    have hcz7_1 : w3.cell? ⟨gb101, 1, none⟩ = some (.int .i64 a0_1) := (blk_cell BK101.out 1).trans rfl
    have hfz7_0 := blk_frozen BK101.out 0
    have hfz7_1 := blk_frozen BK101.out 1
    go_wp2
    repeat (go_quiet (fail); try go_wp2)
    go_meet
    case rel => exact ⟨_, (true), (by first | rfl | (simp; done) | (simp [*]; done)), H', ⟨by first | omega | exact Nat.le_refl _⟩, ⟨by (with_reducible repeat (first | refine blk_drewN ?_ _ | refine blk_drew ?_ | refine blk_alloc ?_ _)); exact BK101.out⟩, ⟨by repeat (first | (with_reducible first | exact HB.out | apply below_alloc | apply pw_below_drewN | apply below_drew1 | refine below_set ?_ GE101.out) | exact HB.out)⟩⟩
   ·rw [if_neg c6] at H
    have c6b0 : decide (1000000 < a0_1) = false := decide_eq_false c6
    clear c6
    replace H := Option.bind_eq_some_iff.mp H
    obtain ⟨t102, A80, H⟩ := H
    replace H : (frac_Right.j0 k (decide (t102 > 1000000)) a0_0 a0_1) = some r := H
    have A8 := Aside0.mk A80
    clear A80
    have H' := Aside0.mk H
    clear H
    have hcz9_0 : w3.cell? ⟨gb101, 0, none⟩ = some (.int .i64 a0_0) := (blk_cell BK101.out 0).trans rfl
    have hcz9_1 : w3.cell? ⟨gb101, 1, none⟩ = some (.int .i64 a0_1) := (blk_cell BK101.out 1).trans rfl
    have hfz9_0 := blk_frozen BK101.out 0
    have hfz9_1 := blk_frozen BK101.out 1
    go_wp2_with (first | (go_at_call 47; (with_reducible refine (frac_size.calls a0_0 t102 _ A8.out).mono ?_); rintro e w' ⟨rfl, ⟨nd, rfl⟩⟩; (try first | exact ⟨rfl, _, World.drewN_drewN _ _ _⟩ | exact ⟨rfl, _, Eq.trans (World.drewN_drewN _ _ _) (congrArg (World.drewN _) (Nat.add_assoc _ _ _))⟩)))
    repeat (go_quiet (first | (go_at_call 47; (with_reducible refine (frac_size.calls a0_0 t102 _ A8.out).mono ?_); rintro e w' ⟨rfl, ⟨nd, rfl⟩⟩; (try first | exact ⟨rfl, _, World.drewN_drewN _ _ _⟩ | exact ⟨rfl, _, Eq.trans (World.drewN_drewN _ _ _) (congrArg (World.drewN _) (Nat.add_assoc _ _ _))⟩))); try go_wp2_with (first | (go_at_call 47; (with_reducible refine (frac_size.calls a0_0 t102 _ A8.out).mono ?_); rintro e w' ⟨rfl, ⟨nd, rfl⟩⟩; (try first | exact ⟨rfl, _, World.drewN_drewN _ _ _⟩ | exact ⟨rfl, _, Eq.trans (World.drewN_drewN _ _ _) (congrArg (World.drewN _) (Nat.add_assoc _ _ _))⟩))))
    go_meet
    case rel => exact ⟨_, (decide (t102 > 1000000)), (by first | rfl | (simp; done) | (simp [*]; done)), H', ⟨by first | omega | exact Nat.le_refl _⟩, ⟨by (with_reducible repeat (first | refine blk_drewN ?_ _ | refine blk_drew ?_ | refine blk_alloc ?_ _)); exact BK101.out⟩, ⟨by repeat (first | (with_reducible first | exact HB.out | apply below_alloc | apply pw_below_drewN | apply below_drew1 | refine below_set ?_ GE101.out) | exact HB.out)⟩⟩
 case rest =>
  clear HC2
  try clear p2
  try clear c4
  try clear c4b0
  try clear c5
  try clear c6
  try clear c6b0
  try clear hcz5_0
  try clear hcz5_1
  try clear hcz7_0
  try clear hcz7_1
  try clear hcz9_0
  try clear hcz9_1
  try clear hfz5_0
  try clear hfz5_1
  try clear hfz7_0
  try clear hfz7_1
  try clear hfz9_0
  try clear hfz9_1
  obtain ⟨kq, x16_1, rfl, HA, HJ1, BK101, HB⟩ := hcut
  cases kq with
  | zero => exact absurd HA.out (by simp [frac_Right.j0])
  | succ kj1 =>
   have H := HA.out
   clear HA
   simp only [frac_Right.j0] at H
   by_cases c10 : x16_1 = true
   ·subst c10
    have H1 : (some false) = some r := by rw [if_pos rfl] at H; exact H
    clear H
    have H := H1
    clear H1
    obtain rfl := Option.some.inj H
    go_wp2
    repeat (go_quiet (fail); try go_wp2)
    go_ret
    exact ⟨by first | rfl | (simp [errW_none, errW_some] <;> rfl) | (simp [*, errW_none, errW_some] <;> rfl), by repeat (first | (with_reducible first | exact HB.out | apply below_alloc | apply pw_below_drewN | apply below_drew1 | refine below_set ?_ GE101.out) | exact HB.out)⟩
   ·replace c10 := Bool.eq_false_iff.mpr c10
    subst c10
    have H1 : ((frac_size.f a0_0).bind fun t103 => ((frac_size.f a0_1).bind fun t104 => ((frac_gcd.f kj1 t103 t104).bind fun t105 => (some (t105 == 1))))) = some r := by rw [if_neg (show ¬ (false = true) by decide)] at H; exact H
    clear H
    have H := H1
    clear H1
    replace H := Option.bind_eq_some_iff.mp H
    obtain ⟨t103, A110, H⟩ := H
    replace H : ((frac_size.f a0_1).bind fun t104 => ((frac_gcd.f kj1 t103 t104).bind fun t105 => (some (t105 == 1)))) = some r := H
    have A11 := Aside0.mk A110
    clear A110
    replace H := Option.bind_eq_some_iff.mp H
    obtain ⟨t104, A120, H⟩ := H
    replace H : ((frac_gcd.f kj1 t103 t104).bind fun t105 => (some (t105 == 1))) = some r := H
    have A12 := Aside0.mk A120
    clear A120
    replace H := Option.bind_eq_some_iff.mp H
    obtain ⟨t105, A130, H⟩ := H
    replace H : (some (t105 == 1)) = some r := H
    have A13 := Aside0.mk A130
    clear A130
    obtain rfl := Option.some.inj H
    have hcz14_0 : wc.cell? ⟨gb101, 0, none⟩ = some (.int .i64 a0_0) := (blk_cell BK101.out 0).trans rfl
    have hcz14_1 : wc.cell? ⟨gb101, 1, none⟩ = some (.int .i64 a0_1) := (blk_cell BK101.out 1).trans rfl
    have hfz14_0 := blk_frozen BK101.out 0
    have hfz14_1 := blk_frozen BK101.out 1
    go_wp2_with (first | (go_at_call 47; (with_reducible refine (frac_size.calls a0_0 t103 _ A11.out).mono ?_); rintro e w' ⟨rfl, ⟨nd, rfl⟩⟩; (try first | exact ⟨rfl, _, World.drewN_drewN _ _ _⟩ | exact ⟨rfl, _, Eq.trans (World.drewN_drewN _ _ _) (congrArg (World.drewN _) (Nat.add_assoc _ _ _))⟩)) | (go_at_call 47; (with_reducible refine (frac_size.calls a0_1 t104 _ A12.out).mono ?_); rintro e w' ⟨rfl, ⟨nd, rfl⟩⟩; (try first | exact ⟨rfl, _, World.drewN_drewN _ _ _⟩ | exact ⟨rfl, _, Eq.trans (World.drewN_drewN _ _ _) (congrArg (World.drewN _) (Nat.add_assoc _ _ _))⟩)) | (go_at_call 48; (with_reducible refine (frac_gcd.calls kj1 t103 t104 t105 _ A13.out).mono ?_); rintro e w' ⟨rfl, ⟨nd, rfl⟩⟩; (try first | exact ⟨rfl, _, World.drewN_drewN _ _ _⟩ | exact ⟨rfl, _, Eq.trans (World.drewN_drewN _ _ _) (congrArg (World.drewN _) (Nat.add_assoc _ _ _))⟩)))
    repeat (go_quiet (first | (go_at_call 47; (with_reducible refine (frac_size.calls a0_0 t103 _ A11.out).mono ?_); rintro e w' ⟨rfl, ⟨nd, rfl⟩⟩; (try first | exact ⟨rfl, _, World.drewN_drewN _ _ _⟩ | exact ⟨rfl, _, Eq.trans (World.drewN_drewN _ _ _) (congrArg (World.drewN _) (Nat.add_assoc _ _ _))⟩)) | (go_at_call 47; (with_reducible refine (frac_size.calls a0_1 t104 _ A12.out).mono ?_); rintro e w' ⟨rfl, ⟨nd, rfl⟩⟩; (try first | exact ⟨rfl, _, World.drewN_drewN _ _ _⟩ | exact ⟨rfl, _, Eq.trans (World.drewN_drewN _ _ _) (congrArg (World.drewN _) (Nat.add_assoc _ _ _))⟩)) | (go_at_call 48; (with_reducible refine (frac_gcd.calls kj1 t103 t104 t105 _ A13.out).mono ?_); rintro e w' ⟨rfl, ⟨nd, rfl⟩⟩; (try first | exact ⟨rfl, _, World.drewN_drewN _ _ _⟩ | exact ⟨rfl, _, Eq.trans (World.drewN_drewN _ _ _) (congrArg (World.drewN _) (Nat.add_assoc _ _ _))⟩))); try go_wp2_with (first | (go_at_call 47; (with_reducible refine (frac_size.calls a0_0 t103 _ A11.out).mono ?_); rintro e w' ⟨rfl, ⟨nd, rfl⟩⟩; (try first | exact ⟨rfl, _, World.drewN_drewN _ _ _⟩ | exact ⟨rfl, _, Eq.trans (World.drewN_drewN _ _ _) (congrArg (World.drewN _) (Nat.add_assoc _ _ _))⟩)) | (go_at_call 47; (with_reducible refine (frac_size.calls a0_1 t104 _ A12.out).mono ?_); rintro e w' ⟨rfl, ⟨nd, rfl⟩⟩; (try first | exact ⟨rfl, _, World.drewN_drewN _ _ _⟩ | exact ⟨rfl, _, Eq.trans (World.drewN_drewN _ _ _) (congrArg (World.drewN _) (Nat.add_assoc _ _ _))⟩)) | (go_at_call 48; (with_reducible refine (frac_gcd.calls kj1 t103 t104 t105 _ A13.out).mono ?_); rintro e w' ⟨rfl, ⟨nd, rfl⟩⟩; (try first | exact ⟨rfl, _, World.drewN_drewN _ _ _⟩ | exact ⟨rfl, _, Eq.trans (World.drewN_drewN _ _ _) (congrArg (World.drewN _) (Nat.add_assoc _ _ _))⟩))))
    go_ret
    exact ⟨by first | rfl | (simp [errW_none, errW_some] <;> rfl) | (simp [*, errW_none, errW_some] <;> rfl), by repeat (first | (with_reducible first | exact HB.out | apply below_alloc | apply pw_below_drewN | apply below_drew1 | refine below_set ?_ GE101.out) | exact HB.out)⟩

end Go.Proofs.Ytoppdlideonjjaa.M
end
section
/- Fractions: which are valid. -/
namespace Go.Proofs.Ytoppdlideonjjaa.M
open Go.RowKit Go.Proofs.YtoppdlideonjjaaW.PrintWords Dv
set_option linter.unusedVariables false
set_option linter.unusedSimpArgs false
theorem frac_gcd.go : ∀ (n : Nat) (a b : Int), b.toNat ≤ n → 0 ≤ a → 0 ≤ b → Ev (fun k => frac_gcd.l0 k a b) ((Nat.gcd a.toNat b.toNat : Nat) : Int)
  | 0, a, b, hn, ha, hb => by
    obtain rfl : b = 0 := by omega
    refine Ev.succ ?_
    simp only [frac_gcd.l0, if_true]
    have e : ((Nat.gcd a.toNat (0 : Int).toNat : Nat) : Int) = a := by simp; omega
    rw [e]
    exact Ev.const _
  | n + 1, a, b, hn, ha, hb => by
    refine Ev.succ ?_
    by_cases h : b = 0
    · subst h
      simp only [frac_gcd.l0, if_true]
      have e : ((Nat.gcd a.toNat (0 : Int).toNat : Nat) : Int) = a := by simp; omega
      rw [e]
      exact Ev.const _
    · simp only [frac_gcd.l0, if_neg h]
      have e : Int.tmod a b = a % b := Int.tmod_eq_emod_of_nonneg ha
      have h1 : 0 ≤ a % b := Int.emod_nonneg a h
      have h2 : a % b < b := Int.emod_lt_of_pos a (by omega)
      rw [e]
      have ih := frac_gcd.go n b (a % b) (by omega) hb h1
      have g : Nat.gcd b.toNat (a % b).toNat = Nat.gcd a.toNat b.toNat := by
        rw [Int.toNat_emod ha hb, Nat.gcd_comm a.toNat, Nat.gcd_rec b.toNat a.toNat, Nat.gcd_comm]
      rw [g] at ih
      exact ih
theorem frac_size.eq {a : Int} (h : inI a) : frac_size.f a = some (ab a) := by
  unfold inI at h
  unfold frac_size.f ab
  simp only [wrap_u64]
  split
  · congr 1; omega
  · congr 1; omega
/-- Is a fraction valid. -/
def rightv (n d : Int) : Bool := decide (1 ≤ d ∧ d ≤ 1000000 ∧ -1000000 ≤ n ∧ n ≤ 1000000) && (((Nat.gcd (ab n).toNat d.toNat : Nat) : Int) == 1)
theorem rightv_bounds {n d : Int} (h : rightv n d = true) : 1 ≤ d ∧ d ≤ 1000000 ∧ -1000000 ≤ n ∧ n ≤ 1000000 := by
  unfold rightv at h
  simp only [Bool.and_eq_true, decide_eq_true_eq] at h
  exact h.1
theorem rightv_no {n d : Int} (h : ¬ (1 ≤ d ∧ d ≤ 1000000 ∧ -1000000 ≤ n ∧ n ≤ 1000000)) : rightv n d = false := by
  unfold rightv
  rw [decide_eq_false h, Bool.false_and]
theorem rightv_yes {n d : Int} (h : 1 ≤ d ∧ d ≤ 1000000 ∧ -1000000 ≤ n ∧ n ≤ 1000000) : rightv n d = (((Nat.gcd (ab n).toNat d.toNat : Nat) : Int) == 1) := by
  unfold rightv
  rw [decide_eq_true h, Bool.true_and]
theorem frac_Right.eq {n d : Int} (hn : inI n) (hd : inI d) : Ev (fun k => frac_Right.f k n d) (rightv n d) := by
  have hb := ab_bound hn
  unfold frac_Right.f
  by_cases c1 : d < 1
  · simp only [if_pos c1]
    rw [rightv_no (by omega)]
    refine Ev.succ ?_
    simp only [frac_Right.j0, if_true]
    exact Ev.const _
  simp only [if_neg c1]
  by_cases c2 : d > 1000000
  · simp only [if_pos c2]
    rw [rightv_no (by omega)]
    refine Ev.succ ?_
    simp only [frac_Right.j0, if_true]
    exact Ev.const _
  simp only [if_neg c2, frac_size.eq hn, Option.bind_some]
  refine Ev.succ ?_
  by_cases c3 : ab n > 1000000
  · rw [rightv_no (by unfold ab at c3; split at c3 <;> omega)]
    simp only [frac_Right.j0, decide_eq_true c3, if_true]
    exact Ev.const _
  · simp only [frac_Right.j0, decide_eq_false c3, Bool.false_eq_true, if_false, frac_size.eq hn, frac_size.eq hd, Option.bind_some]
    rw [rightv_yes (by unfold ab at c3; split at c3 <;> omega)]
    have e : ab d = d := by unfold ab; rw [if_neg (by omega)]
    rw [e]
    exact Ev.bind (g := fun k => frac_gcd.f k (ab n) d) (h := fun k t => some (t == 1)) (frac_gcd.go _ _ _ (Nat.le_refl _) hb.1 (by omega)) (Ev.const _)
end Go.Proofs.Ytoppdlideonjjaa.M
end
section
-- Written by mprint.py (a program of this session) over the kit's print.
namespace Go.Proofs.Ytoppdlideonjjaa.M
open Go.RowKit Go.Proofs.YtoppdlideonjjaaW.PrintWords Go.Proofs.YtoppdlideonjjaaW.PrintLast Go.Proofs.YtoppdlideonjjaaW.PrintMore
attribute [local go_sem] max2_int min2_int max_two min_two max_three min_three max_four min_four   -- for this text's walks alone
set_option linter.unusedVariables false
set_option linter.unusedSimpArgs false

/-! ### accountingref03_divisor: function 58 -/
def accountingref03_divisor.l0 : Nat → Int → Int → Option (Int)
  | 0, _, _ => none
  | k + 1, x0, x1 => if x1 = 0 then (some x0) else (accountingref03_divisor.l0 k x1 (Int.tmod x0 x1))
def accountingref03_divisor.f (k : Nat) (a0 : Int) (a1 : Int) : Option (Int) := accountingref03_divisor.l0 k a0 a1
theorem accountingref03_divisor.mono_l : ∀ k, (∀ y0 y1, LeO (accountingref03_divisor.l0 k y0 y1) (accountingref03_divisor.l0 (k + 1) y0 y1))
  | 0 => fun _ _ r h => by simp [accountingref03_divisor.l0] at h
  | k + 1 => by
    have ih0 := accountingref03_divisor.mono_l k
    · intro y0 y1
      unfold accountingref03_divisor.l0
      repeat' first
      | (with_reducible exact ih0 _ _)
      | (with_reducible exact LeO.refl _)
      | (with_reducible exact LeO.none _)
      | (with_reducible refine LeO.ite ?_ ?_)
      | (with_reducible refine LeO.bind ?_ (fun _ => ?_))
      | exact ih0 _ _
      | exact LeO.none _
      | refine LeO.ite ?_ ?_
      | refine LeO.bind ?_ (fun _ => ?_)
theorem accountingref03_divisor.mono : ∀ a0 a1 k, LeO (accountingref03_divisor.f k a0 a1) (accountingref03_divisor.f (k + 1) a0 a1) := by
 intro a0 a1 k
 have ih0 := accountingref03_divisor.mono_l k
 unfold accountingref03_divisor.f
 repeat' first
   | (with_reducible exact ih0 _ _)
   | (with_reducible exact LeO.refl _)
   | (with_reducible exact LeO.none _)
   | (with_reducible refine LeO.ite ?_ ?_)
   | (with_reducible refine LeO.bind ?_ (fun _ => ?_))
   | exact ih0 _ _
   | exact LeO.none _
   | refine LeO.ite ?_ ?_
   | refine LeO.bind ?_ (fun _ => ?_)
set_option maxHeartbeats 8000000 in
set_option maxRecDepth 100000 in
theorem accountingref03_divisor.calls (k : Nat) (a0 : Int) (a1 : Int) (r : Int) (w : World) (h : accountingref03_divisor.f k a0 a1 = some r) :
    Calls Try.prog 58 #[.int .u64 a0, .int .u64 a1] w fun e w' => e = .returned (.int .u64 r) ∧ Drawn0 w w' := by
 have H : (accountingref03_divisor.l0 k a0 a1) = some r := h
 clear h
 have H' := Aside0.mk H
 clear H
 go_enter Try.func58, Try.ntmps58
 go_wp2
 repeat (go_quiet (fail); try go_wp2)
 go_loopg [0, 1] k (fun kq v0 v1 w' => ∃ (x0_1 : Int) (x1_1 : Int), v0 = .int .u64 x0_1 ∧ v1 = .int .u64 x1_1 ∧ Aside0 (accountingref03_divisor.l0 kq x0_1 x1_1 = some r) ∧ Aside0 (kq ≤ k) ∧ Drawn0 w w')
 case atStart => exact ⟨(a0), (a1), (by first | rfl | (simp; done) | (simp [*]; done)), (by first | rfl | (simp; done) | (simp [*]; done)), H', ⟨Nat.le_refl _⟩, by repeat (first | exact Drawn0.refl _ | apply Drawn0.step)⟩
 case round =>
  clear H'
  try clear p2
  obtain ⟨x0_1, x1_1, rfl, rfl, HA, HK1, ⟨m1, rfl⟩⟩ := hrel
  cases gk with
  | zero => exact absurd HA.out (by simp [accountingref03_divisor.l0])
  | succ k1 =>
   have H := HA.out
   clear HA
   simp only [accountingref03_divisor.l0] at H
   by_cases c3 : x1_1 = 0
   ·rw [if_pos c3] at H
    have c3b0 : (x1_1 == 0) = true := beq_iff_eq.mpr c3
    have c3b1 : (x1_1 != 0) = false := bne_eq_false_iff_eq.mpr c3
    clear c3
    obtain rfl := Option.some.inj H
    go_wp2
    repeat (go_quiet (fail); try go_wp2)
    go_ret
    exact ⟨by first | rfl | (simp; done) | (simp [*]; done), by repeat (first | exact Drawn0.refl _ | apply Drawn0.step)⟩
   ·rw [if_neg c3] at H
    have c3b0 : (x1_1 == 0) = false := beq_eq_false_iff_ne.mpr c3
    have c3b1 : (x1_1 != 0) = true := bne_iff_ne.mpr c3
    have H' := Aside0.mk H
    clear H
    go_wp2
    repeat (go_quiet (fail); try go_wp2)
    go_roundg k1
    case measure => have := HK1.out; omega
    case rel => exact ⟨(x1_1), (Int.tmod x0_1 x1_1), (by first | rfl | (simp; done) | (simp [*]; done)), (by first | rfl | (simp; done) | (simp [*]; done)), H', ⟨by have := HK1.out; omega⟩, by repeat (first | exact Drawn0.refl _ | apply Drawn0.step)⟩

end Go.Proofs.Ytoppdlideonjjaa.M
end
section
-- Written by mprint.py (a program of this session) over the kit's print.
namespace Go.Proofs.Ytoppdlideonjjaa.M
open Go.RowKit Go.Proofs.YtoppdlideonjjaaW.PrintWords Go.Proofs.YtoppdlideonjjaaW.PrintLast Go.Proofs.YtoppdlideonjjaaW.PrintMore
attribute [local go_sem] max2_int min2_int max_two min_two max_three min_three max_four min_four   -- for this text's walks alone
set_option linter.unusedVariables false
set_option linter.unusedSimpArgs false

/-! ### accountingref03_size: function 59 -/
def accountingref03_size.f (a0 : Int) : Option (Int) := if a0 < 0 then (some (IntKind.u64.wrap (-(IntKind.u64.wrap (a0))))) else (some (IntKind.u64.wrap (a0)))
set_option maxHeartbeats 8000000 in
set_option maxRecDepth 100000 in
theorem accountingref03_size.calls (a0 : Int) (r : Int) (w : World) (h : accountingref03_size.f a0 = some r) :
    Calls Try.prog 59 #[.int .i64 a0] w fun e w' => e = .returned (.int .u64 r) ∧ Drawn0 w w' := by
 have H : (if a0 < 0 then (some (IntKind.u64.wrap (-(IntKind.u64.wrap (a0))))) else (some (IntKind.u64.wrap (a0)))) = some r := h
 clear h
 by_cases c2 : a0 < 0
 ·rw [if_pos c2] at H
  have c2b0 : decide (a0 < 0) = true := decide_eq_true c2
  clear c2
  obtain rfl := Option.some.inj H
  go_enter Try.func59, Try.ntmps59
  go_wp2
  go_ret
  exact ⟨by first | rfl | (simp; done) | (simp [*]; done), by repeat (first | exact Drawn0.refl _ | apply Drawn0.step)⟩
 ·rw [if_neg c2] at H
  have c2b0 : decide (a0 < 0) = false := decide_eq_false c2
  clear c2
  obtain rfl := Option.some.inj H
  go_enter Try.func59, Try.ntmps59
  go_wp2
  go_ret
  exact ⟨by first | rfl | (simp; done) | (simp [*]; done), by repeat (first | exact Drawn0.refl _ | apply Drawn0.step)⟩

end Go.Proofs.Ytoppdlideonjjaa.M
end
section
-- Written by mprint.py (a program of this session) over the kit's print.
namespace Go.Proofs.Ytoppdlideonjjaa.M
open Go.RowKit Go.Proofs.YtoppdlideonjjaaW.PrintWords Go.Proofs.YtoppdlideonjjaaW.PrintLast Go.Proofs.YtoppdlideonjjaaW.PrintMore
attribute [local go_sem] max2_int min2_int max_two min_two max_three min_three max_four min_four   -- for this text's walks alone
set_option linter.unusedVariables false
set_option linter.unusedSimpArgs false

/-! ### accountingref03_Right: function 36 -/
def accountingref03_Right.f (k : Nat) (a0_0 : Int) (a0_1 : Int) : Option (Bool) := if a0_1 ≥ 1 then (if a0_1 ≤ 1000000 then (if a0_0 ≥ (-1000000) then (if a0_0 ≤ 1000000 then ((accountingref03_size.f a0_0).bind fun t102 => ((accountingref03_size.f a0_1).bind fun t103 => ((accountingref03_divisor.f k t102 t103).bind fun t104 => (some (t104 == 1))))) else (some false)) else (some false)) else (some false)) else (some false)
theorem accountingref03_Right.mono : ∀ a0 a1 k, LeO (accountingref03_Right.f k a0 a1) (accountingref03_Right.f (k + 1) a0 a1) := by
 intro a0 a1 k
 unfold accountingref03_Right.f
 repeat' first
   | (with_reducible exact accountingref03_divisor.mono _ _ _)
   | (with_reducible exact LeO.refl _)
   | (with_reducible exact LeO.none _)
   | (with_reducible refine LeO.ite ?_ ?_)
   | (with_reducible refine LeO.bind ?_ (fun _ => ?_))
   | exact accountingref03_divisor.mono _ _ _
   | exact LeO.none _
   | refine LeO.ite ?_ ?_
   | refine LeO.bind ?_ (fun _ => ?_)
set_option maxHeartbeats 8000000 in
set_option maxRecDepth 100000 in
theorem accountingref03_Right.calls (k : Nat) (a0_0 : Int) (a0_1 : Int) (r : Bool) (w : World) (h : accountingref03_Right.f k a0_0 a0_1 = some r) :
    Calls Try.prog 36 #[.agg #[.int .i64 a0_0, .int .i64 a0_1]] w fun e w' => e = .returned (.bool r) ∧ Below w.heap.size w w' := by
 have hu35 := Try.underlying35
 have hu3 := Try.underlying3
 have HB := Aside0.mk (Below.refl w.heap.size w)
 have H : (if a0_1 ≥ 1 then (if a0_1 ≤ 1000000 then (if a0_0 ≥ (-1000000) then (if a0_0 ≤ 1000000 then ((accountingref03_size.f a0_0).bind fun t102 => ((accountingref03_size.f a0_1).bind fun t103 => ((accountingref03_divisor.f k t102 t103).bind fun t104 => (some (t104 == 1))))) else (some false)) else (some false)) else (some false)) else (some false)) = some r := h
 clear h
 by_cases c2 : a0_1 ≥ 1
 ·rw [if_pos c2] at H
  have c2b0 : decide (1 ≤ a0_1) = true := decide_eq_true c2
  clear c2
  by_cases c3 : a0_1 ≤ 1000000
  ·rw [if_pos c3] at H
   have c3b0 : decide (a0_1 ≤ 1000000) = true := decide_eq_true c3
   clear c3
   by_cases c4 : a0_0 ≥ (-1000000)
   ·rw [if_pos c4] at H
    have c4b0 : decide ((-1000000) ≤ a0_0) = true := decide_eq_true c4
    clear c4
    by_cases c5 : a0_0 ≤ 1000000
    ·rw [if_pos c5] at H
     have c5b0 : decide (a0_0 ≤ 1000000) = true := decide_eq_true c5
     clear c5
     replace H := Option.bind_eq_some_iff.mp H
     obtain ⟨t102, A60, H⟩ := H
     replace H : ((accountingref03_size.f a0_1).bind fun t103 => ((accountingref03_divisor.f k t102 t103).bind fun t104 => (some (t104 == 1)))) = some r := H
     have A6 := Aside0.mk A60
     clear A60
     replace H := Option.bind_eq_some_iff.mp H
     obtain ⟨t103, A70, H⟩ := H
     replace H : ((accountingref03_divisor.f k t102 t103).bind fun t104 => (some (t104 == 1))) = some r := H
     have A7 := Aside0.mk A70
     clear A70
     replace H := Option.bind_eq_some_iff.mp H
     obtain ⟨t104, A80, H⟩ := H
     replace H : (some (t104 == 1)) = some r := H
     have A8 := Aside0.mk A80
     clear A80
     obtain rfl := Option.some.inj H
     go_enter Try.func36, Try.ntmps36
     go_wp2_with (first | ((with_reducible refine gate_dst (N := 1) rfl ?_); refine box_event ?hg (N := 1) ?hd (cs := #[.int .i64 a0_0, .int .i64 a0_1]) (t := 35) ?hr ?_; (case hd => rfl); (case hg => rfl); (case hr => first | (go_simp; done) | (go_simp; rfl)); intro gb101 hg w9 hbox hb; have n0_ := Aside0.mk (below_step (by repeat (first | (with_reducible first | exact HB.out | apply below_alloc | apply pw_below_drewN | apply below_drew1) | exact HB.out)) hb); have n1_ := Aside0.mk (hbox); have n2_ := Aside0.mk ((by rw [hg]; exact (below_size (by repeat (first | (with_reducible first | exact HB.out | apply below_alloc | apply pw_below_drewN | apply below_drew1) | exact HB.out))) : w.heap.size ≤ gb101)); have n3_ := Aside0.mk ((by rw [hg]; exact (below_size (by repeat (first | (with_reducible first | exact HB.out | apply below_alloc | apply pw_below_drewN | apply below_drew1) | exact HB.out))) : w.heap.size ≤ gb101)); clear HB; have HB := n0_; have BK101 := n1_; have GW101 := n2_; have GE101 := n3_; clear n0_ n1_ n2_ n3_; clear hb hbox hg; have hcz10_0 : w9.cell? ⟨gb101, 0, none⟩ = some (.int .i64 a0_0) := (blk_cell BK101.out 0).trans rfl; have hcz10_1 : w9.cell? ⟨gb101, 1, none⟩ = some (.int .i64 a0_1) := (blk_cell BK101.out 1).trans rfl; have hfz10_0 := blk_frozen BK101.out 0; have hfz10_1 := blk_frozen BK101.out 1) | (go_at_call 59; (with_reducible refine (accountingref03_size.calls a0_0 t102 _ A6.out).mono ?_); rintro e w' ⟨rfl, ⟨nd, rfl⟩⟩; (try first | exact ⟨rfl, _, World.drewN_drewN _ _ _⟩ | exact ⟨rfl, _, Eq.trans (World.drewN_drewN _ _ _) (congrArg (World.drewN _) (Nat.add_assoc _ _ _))⟩)) | (go_at_call 59; (with_reducible refine (accountingref03_size.calls a0_1 t103 _ A7.out).mono ?_); rintro e w' ⟨rfl, ⟨nd, rfl⟩⟩; (try first | exact ⟨rfl, _, World.drewN_drewN _ _ _⟩ | exact ⟨rfl, _, Eq.trans (World.drewN_drewN _ _ _) (congrArg (World.drewN _) (Nat.add_assoc _ _ _))⟩)) | (go_at_call 58; (with_reducible refine (accountingref03_divisor.calls k t102 t103 t104 _ A8.out).mono ?_); rintro e w' ⟨rfl, ⟨nd, rfl⟩⟩; (try first | exact ⟨rfl, _, World.drewN_drewN _ _ _⟩ | exact ⟨rfl, _, Eq.trans (World.drewN_drewN _ _ _) (congrArg (World.drewN _) (Nat.add_assoc _ _ _))⟩)))
     repeat (go_quiet (first | ((with_reducible refine gate_dst (N := 1) rfl ?_); refine box_event ?hg (N := 1) ?hd (cs := #[.int .i64 a0_0, .int .i64 a0_1]) (t := 35) ?hr ?_; (case hd => rfl); (case hg => rfl); (case hr => first | (go_simp; done) | (go_simp; rfl)); intro gb101 hg w9 hbox hb; have n0_ := Aside0.mk (below_step (by repeat (first | (with_reducible first | exact HB.out | apply below_alloc | apply pw_below_drewN | apply below_drew1) | exact HB.out)) hb); have n1_ := Aside0.mk (hbox); have n2_ := Aside0.mk ((by rw [hg]; exact (below_size (by repeat (first | (with_reducible first | exact HB.out | apply below_alloc | apply pw_below_drewN | apply below_drew1) | exact HB.out))) : w.heap.size ≤ gb101)); have n3_ := Aside0.mk ((by rw [hg]; exact (below_size (by repeat (first | (with_reducible first | exact HB.out | apply below_alloc | apply pw_below_drewN | apply below_drew1) | exact HB.out))) : w.heap.size ≤ gb101)); clear HB; have HB := n0_; have BK101 := n1_; have GW101 := n2_; have GE101 := n3_; clear n0_ n1_ n2_ n3_; clear hb hbox hg; have hcz10_0 : w9.cell? ⟨gb101, 0, none⟩ = some (.int .i64 a0_0) := (blk_cell BK101.out 0).trans rfl; have hcz10_1 : w9.cell? ⟨gb101, 1, none⟩ = some (.int .i64 a0_1) := (blk_cell BK101.out 1).trans rfl; have hfz10_0 := blk_frozen BK101.out 0; have hfz10_1 := blk_frozen BK101.out 1) | (go_at_call 59; (with_reducible refine (accountingref03_size.calls a0_0 t102 _ A6.out).mono ?_); rintro e w' ⟨rfl, ⟨nd, rfl⟩⟩; (try first | exact ⟨rfl, _, World.drewN_drewN _ _ _⟩ | exact ⟨rfl, _, Eq.trans (World.drewN_drewN _ _ _) (congrArg (World.drewN _) (Nat.add_assoc _ _ _))⟩)) | (go_at_call 59; (with_reducible refine (accountingref03_size.calls a0_1 t103 _ A7.out).mono ?_); rintro e w' ⟨rfl, ⟨nd, rfl⟩⟩; (try first | exact ⟨rfl, _, World.drewN_drewN _ _ _⟩ | exact ⟨rfl, _, Eq.trans (World.drewN_drewN _ _ _) (congrArg (World.drewN _) (Nat.add_assoc _ _ _))⟩)) | (go_at_call 58; (with_reducible refine (accountingref03_divisor.calls k t102 t103 t104 _ A8.out).mono ?_); rintro e w' ⟨rfl, ⟨nd, rfl⟩⟩; (try first | exact ⟨rfl, _, World.drewN_drewN _ _ _⟩ | exact ⟨rfl, _, Eq.trans (World.drewN_drewN _ _ _) (congrArg (World.drewN _) (Nat.add_assoc _ _ _))⟩))); try go_wp2_with (first | ((with_reducible refine gate_dst (N := 1) rfl ?_); refine box_event ?hg (N := 1) ?hd (cs := #[.int .i64 a0_0, .int .i64 a0_1]) (t := 35) ?hr ?_; (case hd => rfl); (case hg => rfl); (case hr => first | (go_simp; done) | (go_simp; rfl)); intro gb101 hg w9 hbox hb; have n0_ := Aside0.mk (below_step (by repeat (first | (with_reducible first | exact HB.out | apply below_alloc | apply pw_below_drewN | apply below_drew1) | exact HB.out)) hb); have n1_ := Aside0.mk (hbox); have n2_ := Aside0.mk ((by rw [hg]; exact (below_size (by repeat (first | (with_reducible first | exact HB.out | apply below_alloc | apply pw_below_drewN | apply below_drew1) | exact HB.out))) : w.heap.size ≤ gb101)); have n3_ := Aside0.mk ((by rw [hg]; exact (below_size (by repeat (first | (with_reducible first | exact HB.out | apply below_alloc | apply pw_below_drewN | apply below_drew1) | exact HB.out))) : w.heap.size ≤ gb101)); clear HB; have HB := n0_; have BK101 := n1_; have GW101 := n2_; have GE101 := n3_; clear n0_ n1_ n2_ n3_; clear hb hbox hg; have hcz10_0 : w9.cell? ⟨gb101, 0, none⟩ = some (.int .i64 a0_0) := (blk_cell BK101.out 0).trans rfl; have hcz10_1 : w9.cell? ⟨gb101, 1, none⟩ = some (.int .i64 a0_1) := (blk_cell BK101.out 1).trans rfl; have hfz10_0 := blk_frozen BK101.out 0; have hfz10_1 := blk_frozen BK101.out 1) | (go_at_call 59; (with_reducible refine (accountingref03_size.calls a0_0 t102 _ A6.out).mono ?_); rintro e w' ⟨rfl, ⟨nd, rfl⟩⟩; (try first | exact ⟨rfl, _, World.drewN_drewN _ _ _⟩ | exact ⟨rfl, _, Eq.trans (World.drewN_drewN _ _ _) (congrArg (World.drewN _) (Nat.add_assoc _ _ _))⟩)) | (go_at_call 59; (with_reducible refine (accountingref03_size.calls a0_1 t103 _ A7.out).mono ?_); rintro e w' ⟨rfl, ⟨nd, rfl⟩⟩; (try first | exact ⟨rfl, _, World.drewN_drewN _ _ _⟩ | exact ⟨rfl, _, Eq.trans (World.drewN_drewN _ _ _) (congrArg (World.drewN _) (Nat.add_assoc _ _ _))⟩)) | (go_at_call 58; (with_reducible refine (accountingref03_divisor.calls k t102 t103 t104 _ A8.out).mono ?_); rintro e w' ⟨rfl, ⟨nd, rfl⟩⟩; (try first | exact ⟨rfl, _, World.drewN_drewN _ _ _⟩ | exact ⟨rfl, _, Eq.trans (World.drewN_drewN _ _ _) (congrArg (World.drewN _) (Nat.add_assoc _ _ _))⟩))))
     go_ret
     exact ⟨by first | rfl | (simp [errW_none, errW_some] <;> rfl) | (simp [*, errW_none, errW_some] <;> rfl), by repeat (first | (with_reducible first | exact HB.out | apply below_alloc | apply pw_below_drewN | apply below_drew1 | refine below_set ?_ GE101.out) | exact HB.out)⟩
    ·rw [if_neg c5] at H
     have c5b0 : decide (a0_0 ≤ 1000000) = false := decide_eq_false c5
     clear c5
     obtain rfl := Option.some.inj H
     go_enter Try.func36, Try.ntmps36
     go_wp2_with (first | ((with_reducible refine gate_dst (N := 1) rfl ?_); refine box_event ?hg (N := 1) ?hd (cs := #[.int .i64 a0_0, .int .i64 a0_1]) (t := 35) ?hr ?_; (case hd => rfl); (case hg => rfl); (case hr => first | (go_simp; done) | (go_simp; rfl)); intro gb101 hg w11 hbox hb; have n0_ := Aside0.mk (below_step (by repeat (first | (with_reducible first | exact HB.out | apply below_alloc | apply pw_below_drewN | apply below_drew1) | exact HB.out)) hb); have n1_ := Aside0.mk (hbox); have n2_ := Aside0.mk ((by rw [hg]; exact (below_size (by repeat (first | (with_reducible first | exact HB.out | apply below_alloc | apply pw_below_drewN | apply below_drew1) | exact HB.out))) : w.heap.size ≤ gb101)); have n3_ := Aside0.mk ((by rw [hg]; exact (below_size (by repeat (first | (with_reducible first | exact HB.out | apply below_alloc | apply pw_below_drewN | apply below_drew1) | exact HB.out))) : w.heap.size ≤ gb101)); clear HB; have HB := n0_; have BK101 := n1_; have GW101 := n2_; have GE101 := n3_; clear n0_ n1_ n2_ n3_; clear hb hbox hg; have hcz12_0 : w11.cell? ⟨gb101, 0, none⟩ = some (.int .i64 a0_0) := (blk_cell BK101.out 0).trans rfl; have hcz12_1 : w11.cell? ⟨gb101, 1, none⟩ = some (.int .i64 a0_1) := (blk_cell BK101.out 1).trans rfl; have hfz12_0 := blk_frozen BK101.out 0; have hfz12_1 := blk_frozen BK101.out 1))
     repeat (go_quiet (first | ((with_reducible refine gate_dst (N := 1) rfl ?_); refine box_event ?hg (N := 1) ?hd (cs := #[.int .i64 a0_0, .int .i64 a0_1]) (t := 35) ?hr ?_; (case hd => rfl); (case hg => rfl); (case hr => first | (go_simp; done) | (go_simp; rfl)); intro gb101 hg w11 hbox hb; have n0_ := Aside0.mk (below_step (by repeat (first | (with_reducible first | exact HB.out | apply below_alloc | apply pw_below_drewN | apply below_drew1) | exact HB.out)) hb); have n1_ := Aside0.mk (hbox); have n2_ := Aside0.mk ((by rw [hg]; exact (below_size (by repeat (first | (with_reducible first | exact HB.out | apply below_alloc | apply pw_below_drewN | apply below_drew1) | exact HB.out))) : w.heap.size ≤ gb101)); have n3_ := Aside0.mk ((by rw [hg]; exact (below_size (by repeat (first | (with_reducible first | exact HB.out | apply below_alloc | apply pw_below_drewN | apply below_drew1) | exact HB.out))) : w.heap.size ≤ gb101)); clear HB; have HB := n0_; have BK101 := n1_; have GW101 := n2_; have GE101 := n3_; clear n0_ n1_ n2_ n3_; clear hb hbox hg; have hcz12_0 : w11.cell? ⟨gb101, 0, none⟩ = some (.int .i64 a0_0) := (blk_cell BK101.out 0).trans rfl; have hcz12_1 : w11.cell? ⟨gb101, 1, none⟩ = some (.int .i64 a0_1) := (blk_cell BK101.out 1).trans rfl; have hfz12_0 := blk_frozen BK101.out 0; have hfz12_1 := blk_frozen BK101.out 1)); try go_wp2_with (first | ((with_reducible refine gate_dst (N := 1) rfl ?_); refine box_event ?hg (N := 1) ?hd (cs := #[.int .i64 a0_0, .int .i64 a0_1]) (t := 35) ?hr ?_; (case hd => rfl); (case hg => rfl); (case hr => first | (go_simp; done) | (go_simp; rfl)); intro gb101 hg w11 hbox hb; have n0_ := Aside0.mk (below_step (by repeat (first | (with_reducible first | exact HB.out | apply below_alloc | apply pw_below_drewN | apply below_drew1) | exact HB.out)) hb); have n1_ := Aside0.mk (hbox); have n2_ := Aside0.mk ((by rw [hg]; exact (below_size (by repeat (first | (with_reducible first | exact HB.out | apply below_alloc | apply pw_below_drewN | apply below_drew1) | exact HB.out))) : w.heap.size ≤ gb101)); have n3_ := Aside0.mk ((by rw [hg]; exact (below_size (by repeat (first | (with_reducible first | exact HB.out | apply below_alloc | apply pw_below_drewN | apply below_drew1) | exact HB.out))) : w.heap.size ≤ gb101)); clear HB; have HB := n0_; have BK101 := n1_; have GW101 := n2_; have GE101 := n3_; clear n0_ n1_ n2_ n3_; clear hb hbox hg; have hcz12_0 : w11.cell? ⟨gb101, 0, none⟩ = some (.int .i64 a0_0) := (blk_cell BK101.out 0).trans rfl; have hcz12_1 : w11.cell? ⟨gb101, 1, none⟩ = some (.int .i64 a0_1) := (blk_cell BK101.out 1).trans rfl; have hfz12_0 := blk_frozen BK101.out 0; have hfz12_1 := blk_frozen BK101.out 1)))
     go_ret
     exact ⟨by first | rfl | (simp [errW_none, errW_some] <;> rfl) | (simp [*, errW_none, errW_some] <;> rfl), by repeat (first | (with_reducible first | exact HB.out | apply below_alloc | apply pw_below_drewN | apply below_drew1 | refine below_set ?_ GE101.out) | exact HB.out)⟩
   ·rw [if_neg c4] at H
    have c4b0 : decide ((-1000000) ≤ a0_0) = false := decide_eq_false c4
    clear c4
    obtain rfl := Option.some.inj H
    go_enter Try.func36, Try.ntmps36
    go_wp2_with (first | ((with_reducible refine gate_dst (N := 1) rfl ?_); refine box_event ?hg (N := 1) ?hd (cs := #[.int .i64 a0_0, .int .i64 a0_1]) (t := 35) ?hr ?_; (case hd => rfl); (case hg => rfl); (case hr => first | (go_simp; done) | (go_simp; rfl)); intro gb101 hg w13 hbox hb; have n0_ := Aside0.mk (below_step (by repeat (first | (with_reducible first | exact HB.out | apply below_alloc | apply pw_below_drewN | apply below_drew1) | exact HB.out)) hb); have n1_ := Aside0.mk (hbox); have n2_ := Aside0.mk ((by rw [hg]; exact (below_size (by repeat (first | (with_reducible first | exact HB.out | apply below_alloc | apply pw_below_drewN | apply below_drew1) | exact HB.out))) : w.heap.size ≤ gb101)); have n3_ := Aside0.mk ((by rw [hg]; exact (below_size (by repeat (first | (with_reducible first | exact HB.out | apply below_alloc | apply pw_below_drewN | apply below_drew1) | exact HB.out))) : w.heap.size ≤ gb101)); clear HB; have HB := n0_; have BK101 := n1_; have GW101 := n2_; have GE101 := n3_; clear n0_ n1_ n2_ n3_; clear hb hbox hg; have hcz14_0 : w13.cell? ⟨gb101, 0, none⟩ = some (.int .i64 a0_0) := (blk_cell BK101.out 0).trans rfl; have hcz14_1 : w13.cell? ⟨gb101, 1, none⟩ = some (.int .i64 a0_1) := (blk_cell BK101.out 1).trans rfl; have hfz14_0 := blk_frozen BK101.out 0; have hfz14_1 := blk_frozen BK101.out 1))
    repeat (go_quiet (first | ((with_reducible refine gate_dst (N := 1) rfl ?_); refine box_event ?hg (N := 1) ?hd (cs := #[.int .i64 a0_0, .int .i64 a0_1]) (t := 35) ?hr ?_; (case hd => rfl); (case hg => rfl); (case hr => first | (go_simp; done) | (go_simp; rfl)); intro gb101 hg w13 hbox hb; have n0_ := Aside0.mk (below_step (by repeat (first | (with_reducible first | exact HB.out | apply below_alloc | apply pw_below_drewN | apply below_drew1) | exact HB.out)) hb); have n1_ := Aside0.mk (hbox); have n2_ := Aside0.mk ((by rw [hg]; exact (below_size (by repeat (first | (with_reducible first | exact HB.out | apply below_alloc | apply pw_below_drewN | apply below_drew1) | exact HB.out))) : w.heap.size ≤ gb101)); have n3_ := Aside0.mk ((by rw [hg]; exact (below_size (by repeat (first | (with_reducible first | exact HB.out | apply below_alloc | apply pw_below_drewN | apply below_drew1) | exact HB.out))) : w.heap.size ≤ gb101)); clear HB; have HB := n0_; have BK101 := n1_; have GW101 := n2_; have GE101 := n3_; clear n0_ n1_ n2_ n3_; clear hb hbox hg; have hcz14_0 : w13.cell? ⟨gb101, 0, none⟩ = some (.int .i64 a0_0) := (blk_cell BK101.out 0).trans rfl; have hcz14_1 : w13.cell? ⟨gb101, 1, none⟩ = some (.int .i64 a0_1) := (blk_cell BK101.out 1).trans rfl; have hfz14_0 := blk_frozen BK101.out 0; have hfz14_1 := blk_frozen BK101.out 1)); try go_wp2_with (first | ((with_reducible refine gate_dst (N := 1) rfl ?_); refine box_event ?hg (N := 1) ?hd (cs := #[.int .i64 a0_0, .int .i64 a0_1]) (t := 35) ?hr ?_; (case hd => rfl); (case hg => rfl); (case hr => first | (go_simp; done) | (go_simp; rfl)); intro gb101 hg w13 hbox hb; have n0_ := Aside0.mk (below_step (by repeat (first | (with_reducible first | exact HB.out | apply below_alloc | apply pw_below_drewN | apply below_drew1) | exact HB.out)) hb); have n1_ := Aside0.mk (hbox); have n2_ := Aside0.mk ((by rw [hg]; exact (below_size (by repeat (first | (with_reducible first | exact HB.out | apply below_alloc | apply pw_below_drewN | apply below_drew1) | exact HB.out))) : w.heap.size ≤ gb101)); have n3_ := Aside0.mk ((by rw [hg]; exact (below_size (by repeat (first | (with_reducible first | exact HB.out | apply below_alloc | apply pw_below_drewN | apply below_drew1) | exact HB.out))) : w.heap.size ≤ gb101)); clear HB; have HB := n0_; have BK101 := n1_; have GW101 := n2_; have GE101 := n3_; clear n0_ n1_ n2_ n3_; clear hb hbox hg; have hcz14_0 : w13.cell? ⟨gb101, 0, none⟩ = some (.int .i64 a0_0) := (blk_cell BK101.out 0).trans rfl; have hcz14_1 : w13.cell? ⟨gb101, 1, none⟩ = some (.int .i64 a0_1) := (blk_cell BK101.out 1).trans rfl; have hfz14_0 := blk_frozen BK101.out 0; have hfz14_1 := blk_frozen BK101.out 1)))
    go_ret
    exact ⟨by first | rfl | (simp [errW_none, errW_some] <;> rfl) | (simp [*, errW_none, errW_some] <;> rfl), by repeat (first | (with_reducible first | exact HB.out | apply below_alloc | apply pw_below_drewN | apply below_drew1 | refine below_set ?_ GE101.out) | exact HB.out)⟩
  ·rw [if_neg c3] at H
   have c3b0 : decide (a0_1 ≤ 1000000) = false := decide_eq_false c3
   clear c3
   obtain rfl := Option.some.inj H
   go_enter Try.func36, Try.ntmps36
   go_wp2_with (first | ((with_reducible refine gate_dst (N := 1) rfl ?_); refine box_event ?hg (N := 1) ?hd (cs := #[.int .i64 a0_0, .int .i64 a0_1]) (t := 35) ?hr ?_; (case hd => rfl); (case hg => rfl); (case hr => first | (go_simp; done) | (go_simp; rfl)); intro gb101 hg w15 hbox hb; have n0_ := Aside0.mk (below_step (by repeat (first | (with_reducible first | exact HB.out | apply below_alloc | apply pw_below_drewN | apply below_drew1) | exact HB.out)) hb); have n1_ := Aside0.mk (hbox); have n2_ := Aside0.mk ((by rw [hg]; exact (below_size (by repeat (first | (with_reducible first | exact HB.out | apply below_alloc | apply pw_below_drewN | apply below_drew1) | exact HB.out))) : w.heap.size ≤ gb101)); have n3_ := Aside0.mk ((by rw [hg]; exact (below_size (by repeat (first | (with_reducible first | exact HB.out | apply below_alloc | apply pw_below_drewN | apply below_drew1) | exact HB.out))) : w.heap.size ≤ gb101)); clear HB; have HB := n0_; have BK101 := n1_; have GW101 := n2_; have GE101 := n3_; clear n0_ n1_ n2_ n3_; clear hb hbox hg; have hcz16_0 : w15.cell? ⟨gb101, 0, none⟩ = some (.int .i64 a0_0) := (blk_cell BK101.out 0).trans rfl; have hcz16_1 : w15.cell? ⟨gb101, 1, none⟩ = some (.int .i64 a0_1) := (blk_cell BK101.out 1).trans rfl; have hfz16_0 := blk_frozen BK101.out 0; have hfz16_1 := blk_frozen BK101.out 1))
   repeat (go_quiet (first | ((with_reducible refine gate_dst (N := 1) rfl ?_); refine box_event ?hg (N := 1) ?hd (cs := #[.int .i64 a0_0, .int .i64 a0_1]) (t := 35) ?hr ?_; (case hd => rfl); (case hg => rfl); (case hr => first | (go_simp; done) | (go_simp; rfl)); intro gb101 hg w15 hbox hb; have n0_ := Aside0.mk (below_step (by repeat (first | (with_reducible first | exact HB.out | apply below_alloc | apply pw_below_drewN | apply below_drew1) | exact HB.out)) hb); have n1_ := Aside0.mk (hbox); have n2_ := Aside0.mk ((by rw [hg]; exact (below_size (by repeat (first | (with_reducible first | exact HB.out | apply below_alloc | apply pw_below_drewN | apply below_drew1) | exact HB.out))) : w.heap.size ≤ gb101)); have n3_ := Aside0.mk ((by rw [hg]; exact (below_size (by repeat (first | (with_reducible first | exact HB.out | apply below_alloc | apply pw_below_drewN | apply below_drew1) | exact HB.out))) : w.heap.size ≤ gb101)); clear HB; have HB := n0_; have BK101 := n1_; have GW101 := n2_; have GE101 := n3_; clear n0_ n1_ n2_ n3_; clear hb hbox hg; have hcz16_0 : w15.cell? ⟨gb101, 0, none⟩ = some (.int .i64 a0_0) := (blk_cell BK101.out 0).trans rfl; have hcz16_1 : w15.cell? ⟨gb101, 1, none⟩ = some (.int .i64 a0_1) := (blk_cell BK101.out 1).trans rfl; have hfz16_0 := blk_frozen BK101.out 0; have hfz16_1 := blk_frozen BK101.out 1)); try go_wp2_with (first | ((with_reducible refine gate_dst (N := 1) rfl ?_); refine box_event ?hg (N := 1) ?hd (cs := #[.int .i64 a0_0, .int .i64 a0_1]) (t := 35) ?hr ?_; (case hd => rfl); (case hg => rfl); (case hr => first | (go_simp; done) | (go_simp; rfl)); intro gb101 hg w15 hbox hb; have n0_ := Aside0.mk (below_step (by repeat (first | (with_reducible first | exact HB.out | apply below_alloc | apply pw_below_drewN | apply below_drew1) | exact HB.out)) hb); have n1_ := Aside0.mk (hbox); have n2_ := Aside0.mk ((by rw [hg]; exact (below_size (by repeat (first | (with_reducible first | exact HB.out | apply below_alloc | apply pw_below_drewN | apply below_drew1) | exact HB.out))) : w.heap.size ≤ gb101)); have n3_ := Aside0.mk ((by rw [hg]; exact (below_size (by repeat (first | (with_reducible first | exact HB.out | apply below_alloc | apply pw_below_drewN | apply below_drew1) | exact HB.out))) : w.heap.size ≤ gb101)); clear HB; have HB := n0_; have BK101 := n1_; have GW101 := n2_; have GE101 := n3_; clear n0_ n1_ n2_ n3_; clear hb hbox hg; have hcz16_0 : w15.cell? ⟨gb101, 0, none⟩ = some (.int .i64 a0_0) := (blk_cell BK101.out 0).trans rfl; have hcz16_1 : w15.cell? ⟨gb101, 1, none⟩ = some (.int .i64 a0_1) := (blk_cell BK101.out 1).trans rfl; have hfz16_0 := blk_frozen BK101.out 0; have hfz16_1 := blk_frozen BK101.out 1)))
   go_ret
   exact ⟨by first | rfl | (simp [errW_none, errW_some] <;> rfl) | (simp [*, errW_none, errW_some] <;> rfl), by repeat (first | (with_reducible first | exact HB.out | apply below_alloc | apply pw_below_drewN | apply below_drew1 | refine below_set ?_ GE101.out) | exact HB.out)⟩
 ·rw [if_neg c2] at H
  have c2b0 : decide (1 ≤ a0_1) = false := decide_eq_false c2
  clear c2
  obtain rfl := Option.some.inj H
  go_enter Try.func36, Try.ntmps36
  go_wp2_with (first | ((with_reducible refine gate_dst (N := 1) rfl ?_); refine box_event ?hg (N := 1) ?hd (cs := #[.int .i64 a0_0, .int .i64 a0_1]) (t := 35) ?hr ?_; (case hd => rfl); (case hg => rfl); (case hr => first | (go_simp; done) | (go_simp; rfl)); intro gb101 hg w17 hbox hb; have n0_ := Aside0.mk (below_step (by repeat (first | (with_reducible first | exact HB.out | apply below_alloc | apply pw_below_drewN | apply below_drew1) | exact HB.out)) hb); have n1_ := Aside0.mk (hbox); have n2_ := Aside0.mk ((by rw [hg]; exact (below_size (by repeat (first | (with_reducible first | exact HB.out | apply below_alloc | apply pw_below_drewN | apply below_drew1) | exact HB.out))) : w.heap.size ≤ gb101)); have n3_ := Aside0.mk ((by rw [hg]; exact (below_size (by repeat (first | (with_reducible first | exact HB.out | apply below_alloc | apply pw_below_drewN | apply below_drew1) | exact HB.out))) : w.heap.size ≤ gb101)); clear HB; have HB := n0_; have BK101 := n1_; have GW101 := n2_; have GE101 := n3_; clear n0_ n1_ n2_ n3_; clear hb hbox hg; have hcz18_0 : w17.cell? ⟨gb101, 0, none⟩ = some (.int .i64 a0_0) := (blk_cell BK101.out 0).trans rfl; have hcz18_1 : w17.cell? ⟨gb101, 1, none⟩ = some (.int .i64 a0_1) := (blk_cell BK101.out 1).trans rfl; have hfz18_0 := blk_frozen BK101.out 0; have hfz18_1 := blk_frozen BK101.out 1))
  repeat (go_quiet (first | ((with_reducible refine gate_dst (N := 1) rfl ?_); refine box_event ?hg (N := 1) ?hd (cs := #[.int .i64 a0_0, .int .i64 a0_1]) (t := 35) ?hr ?_; (case hd => rfl); (case hg => rfl); (case hr => first | (go_simp; done) | (go_simp; rfl)); intro gb101 hg w17 hbox hb; have n0_ := Aside0.mk (below_step (by repeat (first | (with_reducible first | exact HB.out | apply below_alloc | apply pw_below_drewN | apply below_drew1) | exact HB.out)) hb); have n1_ := Aside0.mk (hbox); have n2_ := Aside0.mk ((by rw [hg]; exact (below_size (by repeat (first | (with_reducible first | exact HB.out | apply below_alloc | apply pw_below_drewN | apply below_drew1) | exact HB.out))) : w.heap.size ≤ gb101)); have n3_ := Aside0.mk ((by rw [hg]; exact (below_size (by repeat (first | (with_reducible first | exact HB.out | apply below_alloc | apply pw_below_drewN | apply below_drew1) | exact HB.out))) : w.heap.size ≤ gb101)); clear HB; have HB := n0_; have BK101 := n1_; have GW101 := n2_; have GE101 := n3_; clear n0_ n1_ n2_ n3_; clear hb hbox hg; have hcz18_0 : w17.cell? ⟨gb101, 0, none⟩ = some (.int .i64 a0_0) := (blk_cell BK101.out 0).trans rfl; have hcz18_1 : w17.cell? ⟨gb101, 1, none⟩ = some (.int .i64 a0_1) := (blk_cell BK101.out 1).trans rfl; have hfz18_0 := blk_frozen BK101.out 0; have hfz18_1 := blk_frozen BK101.out 1)); try go_wp2_with (first | ((with_reducible refine gate_dst (N := 1) rfl ?_); refine box_event ?hg (N := 1) ?hd (cs := #[.int .i64 a0_0, .int .i64 a0_1]) (t := 35) ?hr ?_; (case hd => rfl); (case hg => rfl); (case hr => first | (go_simp; done) | (go_simp; rfl)); intro gb101 hg w17 hbox hb; have n0_ := Aside0.mk (below_step (by repeat (first | (with_reducible first | exact HB.out | apply below_alloc | apply pw_below_drewN | apply below_drew1) | exact HB.out)) hb); have n1_ := Aside0.mk (hbox); have n2_ := Aside0.mk ((by rw [hg]; exact (below_size (by repeat (first | (with_reducible first | exact HB.out | apply below_alloc | apply pw_below_drewN | apply below_drew1) | exact HB.out))) : w.heap.size ≤ gb101)); have n3_ := Aside0.mk ((by rw [hg]; exact (below_size (by repeat (first | (with_reducible first | exact HB.out | apply below_alloc | apply pw_below_drewN | apply below_drew1) | exact HB.out))) : w.heap.size ≤ gb101)); clear HB; have HB := n0_; have BK101 := n1_; have GW101 := n2_; have GE101 := n3_; clear n0_ n1_ n2_ n3_; clear hb hbox hg; have hcz18_0 : w17.cell? ⟨gb101, 0, none⟩ = some (.int .i64 a0_0) := (blk_cell BK101.out 0).trans rfl; have hcz18_1 : w17.cell? ⟨gb101, 1, none⟩ = some (.int .i64 a0_1) := (blk_cell BK101.out 1).trans rfl; have hfz18_0 := blk_frozen BK101.out 0; have hfz18_1 := blk_frozen BK101.out 1)))
  go_ret
  exact ⟨by first | rfl | (simp [errW_none, errW_some] <;> rfl) | (simp [*, errW_none, errW_some] <;> rfl), by repeat (first | (with_reducible first | exact HB.out | apply below_alloc | apply pw_below_drewN | apply below_drew1 | refine below_set ?_ GE101.out) | exact HB.out)⟩

end Go.Proofs.Ytoppdlideonjjaa.M
end
section
/- Fractions: which are valid, by the specification. -/
namespace Go.Proofs.Ytoppdlideonjjaa.M
open Go.RowKit Go.Proofs.YtoppdlideonjjaaW.PrintWords Dv
set_option linter.unusedVariables false
set_option linter.unusedSimpArgs false
theorem accountingref03_divisor.go : ∀ (n : Nat) (a b : Int), b.toNat ≤ n → 0 ≤ a → 0 ≤ b → Ev (fun k => accountingref03_divisor.l0 k a b) ((Nat.gcd a.toNat b.toNat : Nat) : Int)
  | 0, a, b, hn, ha, hb => by
    obtain rfl : b = 0 := by omega
    refine Ev.succ ?_
    simp only [accountingref03_divisor.l0, if_true]
    have e : ((Nat.gcd a.toNat (0 : Int).toNat : Nat) : Int) = a := by simp; omega
    rw [e]
    exact Ev.const _
  | n + 1, a, b, hn, ha, hb => by
    refine Ev.succ ?_
    by_cases h : b = 0
    · subst h
      simp only [accountingref03_divisor.l0, if_true]
      have e : ((Nat.gcd a.toNat (0 : Int).toNat : Nat) : Int) = a := by simp; omega
      rw [e]
      exact Ev.const _
    · simp only [accountingref03_divisor.l0, if_neg h]
      have e : Int.tmod a b = a % b := Int.tmod_eq_emod_of_nonneg ha
      have h1 : 0 ≤ a % b := Int.emod_nonneg a h
      have h2 : a % b < b := Int.emod_lt_of_pos a (by omega)
      rw [e]
      have ih := accountingref03_divisor.go n b (a % b) (by omega) hb h1
      have g : Nat.gcd b.toNat (a % b).toNat = Nat.gcd a.toNat b.toNat := by
        rw [Int.toNat_emod ha hb, Nat.gcd_comm a.toNat, Nat.gcd_rec b.toNat a.toNat, Nat.gcd_comm]
      rw [g] at ih
      exact ih
theorem accountingref03_size.eq {a : Int} (h : inI a) : accountingref03_size.f a = some (ab a) := by
  unfold inI at h
  unfold accountingref03_size.f ab
  simp only [wrap_u64]
  split
  · congr 1; omega
  · congr 1; omega
theorem accountingref03_Right.eq {n d : Int} (hn : inI n) (hd : inI d) : Ev (fun k => accountingref03_Right.f k n d) (rightv n d) := by
  have hb := ab_bound hn
  unfold accountingref03_Right.f
  by_cases c1 : d ≥ 1
  · by_cases c2 : d ≤ 1000000
    · by_cases c3 : n ≥ -1000000
      · by_cases c4 : n ≤ 1000000
        · simp only [if_pos c1, if_pos c2, if_pos c3, if_pos c4, accountingref03_size.eq hn, accountingref03_size.eq hd, Option.bind_some]
          rw [rightv_yes ⟨c1, c2, c3, c4⟩]
          have e : ab d = d := by unfold ab; rw [if_neg (by omega)]
          rw [e]
          exact Ev.bind (g := fun k => accountingref03_divisor.f k (ab n) d) (h := fun k t => some (t == 1)) (accountingref03_divisor.go _ _ _ (Nat.le_refl _) hb.1 (by omega)) (Ev.const _)
        · simp only [if_pos c1, if_pos c2, if_pos c3, if_neg c4]
          rw [rightv_no (by omega)]
          exact Ev.const _
      · simp only [if_pos c1, if_pos c2, if_neg c3]
        rw [rightv_no (by omega)]
        exact Ev.const _
    · simp only [if_pos c1, if_neg c2]
      rw [rightv_no (by omega)]
      exact Ev.const _
  · simp only [if_neg c1]
    rw [rightv_no (by omega)]
    exact Ev.const _
end Go.Proofs.Ytoppdlideonjjaa.M
end
section
-- Written by mprint.py (a program of this session) over the kit's print.
namespace Go.Proofs.Ytoppdlideonjjaa.M
open Go.RowKit Go.Proofs.YtoppdlideonjjaaW.PrintWords Go.Proofs.YtoppdlideonjjaaW.PrintLast Go.Proofs.YtoppdlideonjjaaW.PrintMore
attribute [local go_sem] max2_int min2_int max_two min_two max_three min_three max_four min_four   -- for this text's walks alone
set_option linter.unusedVariables false
set_option linter.unusedSimpArgs false

/-- A state of type 61 at block g of W; what its slices lead to came in by w0. -/
def IsS61 (w0 W : World) (g : Nat) (f0 : ByteArray) (f1 : Int) (f2 : Int) : Prop := W.heap[g]? = some (.cells #[.string f0, .int .i64 f1, .int .i64 f2] 61 (0, 0)) ∧ w0.heap.size ≤ g
theorem IsS61.grown {w0 W : World} {g : Nat} {f0 : ByteArray} {f1 : Int} {f2 : Int} {W1 : World} {row : Option Nat} (h : IsS61 w0 W g f0 f1 f2) (hw : W.grownBy W1 row) (hne : some g ≠ row) : IsS61 w0 W1 g f0 f1 f2 := by
 obtain ⟨hb, hg⟩ := h
 exact ⟨blk_grown hb hw hne, hg⟩
theorem IsS61.own_neN {w0 W : World} {g : Nat} {f0 : ByteArray} {f1 : Int} {f2 : Int} {α : Type} {d : Kd α} {e : Nat} {base : Nat} {ok : Nat → Prop} {v : Value} {xs : List α} (h : IsS61 w0 W g f0 f1 f2) (ho : Kd.N d e W base ok v xs) (ht : e ≠ 61) : some g ≠ v.ownBlock := by
 obtain ⟨hb, hg⟩ := h
 exact Kd.N_ne ho hb ht
theorem IsS61.fresh {w0 W : World} {g : Nat} {f0 : ByteArray} {f1 : Int} {f2 : Int} (h : IsS61 w0 W g f0 f1 f2) : ∀ k, W.heap.size ≤ k → k ≠ g := by
 obtain ⟨hb, hg⟩ := h
 exact Kd.freshB hb
theorem IsS61.kept {w0 W : World} {g : Nat} {f0 : ByteArray} {f1 : Int} {f2 : Int} {W1 : World} {S : Nat → Prop} (h : IsS61 w0 W g f0 f1 f2) (hk : Kept W W1 S) (hne : ¬ S g) : IsS61 w0 W1 g f0 f1 f2 := by
 obtain ⟨hb, hg⟩ := h
 exact ⟨blk_kept hb hk hne, hg⟩
theorem IsS61.below {w0 W : World} {g : Nat} {f0 : ByteArray} {f1 : Int} {f2 : Int} {W1 : World} (h : IsS61 w0 W g f0 f1 f2) (hw : Below W.heap.size W W1) : IsS61 w0 W1 g f0 f1 f2 := h.grown (grown_of_below hw none) (by simp)
theorem IsS61.alloc {w0 W : World} {g : Nat} {f0 : ByteArray} {f1 : Int} {f2 : Int} (h : IsS61 w0 W g f0 f1 f2) (o : Obj) : IsS61 w0 (W.alloc o) g f0 f1 f2 := h.below (below_alloc (Below.refl _ _) o)
theorem IsS61.drewN {w0 W : World} {g : Nat} {f0 : ByteArray} {f1 : Int} {f2 : Int} (h : IsS61 w0 W g f0 f1 f2) (m : Nat) : IsS61 w0 (W.drewN m) g f0 f1 f2 := h
theorem IsS61.drew {w0 W : World} {g : Nat} {f0 : ByteArray} {f1 : Int} {f2 : Int} (h : IsS61 w0 W g f0 f1 f2) : IsS61 w0 W.drew g f0 f1 f2 := h
theorem IsS61.at_ {w0 W : World} {g : Nat} {f0 : ByteArray} {f1 : Int} {f2 : Int} {w' : World} {m : Nat} (hq : W.drewN m = w') (h : IsS61 w0 W g f0 f1 f2) : IsS61 w0 w' g f0 f1 f2 := by subst hq; exact IsS61.drewN h m
theorem IsS61.apart {w0 W : World} {g : Nat} {f0 : ByteArray} {f1 : Int} {f2 : Int} {α : Type} {d : Kd α} {e : Nat} {base : Nat} {ok : Nat → Prop} {v : Value} {xs : List α} (h : IsS61 w0 W g f0 f1 f2) (ho : d.R e W base ok v xs) (ht : ∀ q, q ∈ e :: d.E → q ≠ 61) : d.R e W base (fun k => ok k ∧ k ≠ g) v xs := by
 obtain ⟨hb, hg⟩ := h
 exact Kd.R_types ho hb ht
theorem IsS61.own_ne {w0 W : World} {g : Nat} {f0 : ByteArray} {f1 : Int} {f2 : Int} {α : Type} {d : Kd α} {e : Nat} {base : Nat} {ok : Nat → Prop} {v : Value} {xs : List α} (h : IsS61 w0 W g f0 f1 f2) (ho : d.R e W base ok v xs) (ht : e ≠ 61) : some g ≠ v.ownBlock := by
 obtain ⟨hb, hg⟩ := h
 exact Kd.R_ne ho hb ht
theorem IsS61.apartQ {w0 W : World} {g : Nat} {f0 : ByteArray} {f1 : Int} {f2 : Int} {α : Type} {d : Kd α} {e : Nat} {base : Nat} {ok : Nat → Prop} {v : Value} {xs : List α} (h : IsS61 w0 W g f0 f1 f2) (ho : d.Q e W base ok v xs) (ht : ∀ q, q ∈ e :: d.E → q ≠ 61) : d.Q e W base (fun k => ok k ∧ k ≠ g) v xs := by
 obtain ⟨hb, hg⟩ := h
 exact Kd.Q_types ho hb ht
theorem IsS61.own_neQ {w0 W : World} {g : Nat} {f0 : ByteArray} {f1 : Int} {f2 : Int} {α : Type} {d : Kd α} {e : Nat} {base : Nat} {ok : Nat → Prop} {v : Value} {xs : List α} (h : IsS61 w0 W g f0 f1 f2) (ho : d.Q e W base ok v xs) (ht : e ≠ 61) : some g ≠ v.ownBlock := by
 obtain ⟨hb, hg⟩ := h
 exact Kd.Q_ne ho hb ht
theorem IsS61.apartS {w0 W : World} {g : Nat} {f0 : ByteArray} {f1 : Int} {f2 : Int} {α : Type} {d : Kd α} {e : Nat} {base : Nat} {ok : Nat → Prop} {v : Value} {xs : List α} (h : IsS61 w0 W g f0 f1 f2) (ho : d.S e W base ok v xs) (ht : ∀ q, q ∈ e :: d.E → q ≠ 61) : d.S e W base (fun k => ok k ∧ k ≠ g) v xs := by
 obtain ⟨hb, hg⟩ := h
 exact Kd.S_types ho hb ht
theorem IsS61.own_neS {w0 W : World} {g : Nat} {f0 : ByteArray} {f1 : Int} {f2 : Int} {α : Type} {d : Kd α} {e : Nat} {base : Nat} {ok : Nat → Prop} {v : Value} {xs : List α} (h : IsS61 w0 W g f0 f1 f2) (ho : d.S e W base ok v xs) (ht : e ≠ 61) : some g ≠ v.ownBlock := by
 obtain ⟨hb, hg⟩ := h
 exact Kd.S_ne ho hb ht
theorem IsS61.lt {w0 W : World} {g : Nat} {f0 : ByteArray} {f1 : Int} {f2 : Int} (h : IsS61 w0 W g f0 f1 f2) : g < W.heap.size := by
 obtain ⟨hb, hg⟩ := h
 exact blk_lt hb
theorem IsS61.ge {w0 W : World} {g : Nat} {f0 : ByteArray} {f1 : Int} {f2 : Int} (h : IsS61 w0 W g f0 f1 f2) : w0.heap.size ≤ g := by
 obtain ⟨hb, hg⟩ := h
 exact hg
theorem IsS61.ne_blk {w0 W : World} {g : Nat} {f0 : ByteArray} {f1 : Int} {f2 : Int} {a : Nat} {cs : Array Value} {t : TypeId} {fr : Nat × Nat} (h : IsS61 w0 W g f0 f1 f2) (hb2 : W.heap[a]? = some (.cells cs t fr)) (ht : t ≠ 61) : g ≠ a := by
 obtain ⟨hb, hg⟩ := h
 rintro rfl
 rw [hb] at hb2
 injection hb2 with hb2
 injection hb2 with _ ht2
 exact ht ht2.symm
theorem IsS61.far {w0 W : World} {g : Nat} {f0 : ByteArray} {f1 : Int} {f2 : Int} {p : Addr} (h : IsS61 w0 W g f0 f1 f2) (hne : g ≠ p.block) (u : Value) : IsS61 w0 (W.setCell p u) g f0 f1 f2 := by
 obtain ⟨hb, hg⟩ := h
 exact ⟨blk_far hb hne u, hg⟩
theorem cellS61_0 {W : World} {g : Nat} {f0 : ByteArray} {f1 : Int} {f2 : Int} (h : W.heap[g]? = some (.cells #[.string f0, .int .i64 f1, .int .i64 f2] 61 (0, 0))) : W.cell? ⟨g, 0, none⟩ = some (.string f0) := (blk_cell h 0).trans rfl
theorem IsS61.set_0 {w0 W : World} {g : Nat} {f0 : ByteArray} {f1 : Int} {f2 : Int} (h : IsS61 w0 W g f0 f1 f2) (x : ByteArray) : IsS61 w0 (W.setCell ⟨g, 0, none⟩ (.string x)) g x f1 f2 := by
 obtain ⟨hb, hg⟩ := h
 exact ⟨by simpa using blk_set hb 0 (.string x), hg⟩
theorem cellS61_1 {W : World} {g : Nat} {f0 : ByteArray} {f1 : Int} {f2 : Int} (h : W.heap[g]? = some (.cells #[.string f0, .int .i64 f1, .int .i64 f2] 61 (0, 0))) : W.cell? ⟨g, 1, none⟩ = some (.int .i64 f1) := (blk_cell h 1).trans rfl
theorem IsS61.set_1 {w0 W : World} {g : Nat} {f0 : ByteArray} {f1 : Int} {f2 : Int} (h : IsS61 w0 W g f0 f1 f2) (x : Int) : IsS61 w0 (W.setCell ⟨g, 1, none⟩ (.int .i64 x)) g f0 x f2 := by
 obtain ⟨hb, hg⟩ := h
 exact ⟨by simpa using blk_set hb 1 (.int .i64 x), hg⟩
theorem cellS61_2 {W : World} {g : Nat} {f0 : ByteArray} {f1 : Int} {f2 : Int} (h : W.heap[g]? = some (.cells #[.string f0, .int .i64 f1, .int .i64 f2] 61 (0, 0))) : W.cell? ⟨g, 2, none⟩ = some (.int .i64 f2) := (blk_cell h 2).trans rfl
theorem IsS61.set_2 {w0 W : World} {g : Nat} {f0 : ByteArray} {f1 : Int} {f2 : Int} (h : IsS61 w0 W g f0 f1 f2) (x : Int) : IsS61 w0 (W.setCell ⟨g, 2, none⟩ (.int .i64 x)) g f0 f1 x := by
 obtain ⟨hb, hg⟩ := h
 exact ⟨by simpa using blk_set hb 2 (.int .i64 x), hg⟩
theorem IsS61.new (w0 W : World) (f0 : ByteArray) (f1 : Int) (f2 : Int) (hB : Below w0.heap.size w0 W) : IsS61 w0 (W.alloc (.cells #[.string f0, .int .i64 f1, .int .i64 f2] 61)) W.heap.size f0 f1 f2 := ⟨by simpa using heap_alloc_new W _, hB.size⟩

/-! ### items_unit_1: function 53 -/
def items_unit_1.f (a0_0 : ByteArray) (a0_1 : Int) (a0_2 : Int) (s1_0 : ByteArray) (s1_1 : Int) (s1_2 : Int) : Option (Bool × ByteArray × Int × Int) := some ((a0_0.toList == s1_0.toList), s1_0, s1_1, s1_2)
set_option maxHeartbeats 8000000 in
set_option maxRecDepth 100000 in
theorem items_unit_1.calls (a0_0 : ByteArray) (a0_1 : Int) (a0_2 : Int) (g : Nat) (s1_0 : ByteArray) (s1_1 : Int) (s1_2 : Int) (r1 : Bool) (r2 : ByteArray) (r3 : Int) (r4 : Int) (w0 w : World) (hI : IsS61 w0 w g s1_0 s1_1 s1_2) (hB : Below w0.heap.size w0 w) (h : items_unit_1.f a0_0 a0_1 a0_2 s1_0 s1_1 s1_2 = some (r1, r2, r3, r4)) :
    Calls Try.prog 53 #[.agg #[.string a0_0, .int .i64 a0_1, .int .i64 a0_2], .pointer (some ⟨g, 0, none⟩)] w fun e w' => e = .returned (.bool r1) ∧ IsS61 w0 w' g r2 r3 r4 ∧ Below w0.heap.size w0 w' ∧ KeepBut w w' g none := by
 have hu61 := Try.underlying61
 have hu9 := Try.underlying9
 have HI1 := Aside0.mk hI
 have HK := Aside0.mk (KeepBut.refl w g none)
 have HL := Aside0.mk hB.size
 clear hI
 have HW0 := Aside0.mk hB.size
 have HB := Aside0.mk hB
 clear hB
 have H : (some ((a0_0.toList == s1_0.toList), s1_0, s1_1, s1_2)) = some (r1, r2, r3, r4) := h
 clear h
 simp only [Option.some.injEq, Prod.mk.injEq] at H
 obtain ⟨rfl, rfl, rfl, rfl⟩ := H
 go_enter Try.func53, Try.ntmps53
 go_wp2_with (first | ((with_reducible refine gate_dst (N := 2) rfl ?_); refine box_event ?hg (N := 2) ?hd (cs := #[.string a0_0, .int .i64 a0_1, .int .i64 a0_2]) (t := 61) ?hr ?_; (case hd => rfl); (case hg => rfl); (case hr => first | (go_simp; done) | (go_simp; rfl)); intro gb101 hg w3 hbox hb; have n0_ := Aside0.mk (IsS61.below (by repeat (first | (with_reducible first | exact HI1.out | apply IsS61.alloc | apply IsS61.drewN | apply IsS61.drew | apply IsS61.set_0 | apply IsS61.set_1 | apply IsS61.set_2) | exact HI1.out)) hb); have n1_ := Aside0.mk (KeepBut.trans (by repeat (first | (with_reducible first | exact HK.out | apply KeepBut.set_ | apply keep_drewN | apply keep_drew | apply keep_alloc) | exact HK.out)) (KeepBut.of_below hb g none) (.inl rfl)); have n2_ := Aside0.mk (below_step (by repeat (first | (with_reducible first | exact HB.out | apply below_alloc | apply pw_below_drewN | apply below_drew1 | refine below_set ?_ (IsS61.ge HI1.out)) | exact HB.out)) hb); have n3_ := Aside0.mk (hbox); have n4_ := Aside0.mk ((by rw [hg]; exact (keep_size (w := w) (g := g) (row := none) (by repeat (first | (with_reducible first | exact HK.out | apply KeepBut.set_ | apply keep_drewN | apply keep_drew | apply keep_alloc) | exact HK.out))) : w.heap.size ≤ gb101)); have n5_ := Aside0.mk ((Nat.le_trans HW0.out (by rw [hg]; exact (keep_size (w := w) (g := g) (row := none) (by repeat (first | (with_reducible first | exact HK.out | apply KeepBut.set_ | apply keep_drewN | apply keep_drew | apply keep_alloc) | exact HK.out))) : w.heap.size ≤ gb101) : w0.heap.size ≤ gb101)); have n6_ := Aside0.mk ((by rw [hg]; exact Nat.ne_of_lt (IsS61.lt (show IsS61 w0 _ g s1_0 s1_1 s1_2 from by repeat (first | (with_reducible first | exact HI1.out | apply IsS61.alloc | apply IsS61.drewN | apply IsS61.drew | apply IsS61.set_0 | apply IsS61.set_1 | apply IsS61.set_2) | exact HI1.out))) : g ≠ gb101)); have n7_ := Aside0.mk ((by rw [hg]; exact Nat.ne_of_gt (IsS61.lt (show IsS61 w0 _ g s1_0 s1_1 s1_2 from by repeat (first | (with_reducible first | exact HI1.out | apply IsS61.alloc | apply IsS61.drewN | apply IsS61.drew | apply IsS61.set_0 | apply IsS61.set_1 | apply IsS61.set_2) | exact HI1.out))) : gb101 ≠ g)); clear HI1; clear HK; clear HB; have HI1 := n0_; have HK := n1_; have HB := n2_; have BK101 := n3_; have GW101 := n4_; have GE101 := n5_; have NB1_101 := n6_; have NB101_1 := n7_; clear n0_ n1_ n2_ n3_ n4_ n5_ n6_ n7_; clear hb hbox hg; have hnb4 := NB101_1.out; have hnc4 := NB1_101.out; have hcz5_0 : w3.cell? ⟨gb101, 0, none⟩ = some (.string a0_0) := (blk_cell BK101.out 0).trans rfl; have hcz5_1 : w3.cell? ⟨gb101, 1, none⟩ = some (.int .i64 a0_1) := (blk_cell BK101.out 1).trans rfl; have hcz5_2 : w3.cell? ⟨gb101, 2, none⟩ = some (.int .i64 a0_2) := (blk_cell BK101.out 2).trans rfl; have hfz5_0 := blk_frozen BK101.out 0; have hfz5_1 := blk_frozen BK101.out 1; have hfz5_2 := blk_frozen BK101.out 2; obtain ⟨HGz6, hgz6⟩ := HI1.out; have hcz6_0 := cellS61_0 HGz6; have hcz6_1 := cellS61_1 HGz6; have hcz6_2 := cellS61_2 HGz6; have hfz6_0 := blk_frozen HGz6 0; have hfz6_1 := blk_frozen HGz6 1; have hfz6_2 := blk_frozen HGz6 2; clear HGz6 hgz6))
 go_ret
 exact ⟨by first | rfl | (simp [errW_none, errW_some] <;> rfl) | (simp [*, errW_none, errW_some] <;> rfl), by repeat (first | (with_reducible first | exact HI1.out | apply IsS61.alloc | apply IsS61.drewN | apply IsS61.drew | apply IsS61.set_0 | apply IsS61.set_1 | apply IsS61.set_2 | refine IsS61.far ?_ NB1_101.out _) | exact HI1.out), by repeat (first | (with_reducible first | exact HB.out | apply below_alloc | apply pw_below_drewN | apply below_drew1 | refine below_set ?_ (IsS61.ge HI1.out) | refine below_set ?_ GE101.out) | exact HB.out), by repeat (first | (with_reducible first | exact HK.out | apply KeepBut.set_ | apply keep_drewN | apply keep_drew | apply keep_alloc | refine keep_far ?_ GW101.out _) | exact HK.out)⟩

end Go.Proofs.Ytoppdlideonjjaa.M
end
section
-- Written by mprint.py (a program of this session) over the kit's print.
namespace Go.Proofs.Ytoppdlideonjjaa.M
open Go.RowKit Go.Proofs.YtoppdlideonjjaaW.PrintWords Go.Proofs.YtoppdlideonjjaaW.PrintLast Go.Proofs.YtoppdlideonjjaaW.PrintMore
attribute [local go_sem] max2_int min2_int max_two min_two max_three min_three max_four min_four   -- for this text's walks alone
set_option linter.unusedVariables false
set_option linter.unusedSimpArgs false

/-! ### api_Unit_64__items_unit_1: function 64 -/
def api_Unit_64__items_unit_1.l0 : Nat → List (S61) → Int → Int → ByteArray → Int → Int → Option (Int × ByteArray × Int × Int)
  | 0, _, _, _, _, _, _ => none
  | k + 1, x0, x7, x8, x2000, x2001, x2002 => if x8 < x7 then (if 0 ≤ x8 then (if x8 < (x0.length : Int) then ((items_unit_1.f ((rd_T61 x0 x8).f0) ((rd_T61 x0 x8).f1.f0) ((rd_T61 x0 x8).f1.f1) x2000 x2001 x2002).bind fun bt103 => (if bt103.1 = true then (some (x8, bt103.2.1, bt103.2.2.1, bt103.2.2.2)) else (api_Unit_64__items_unit_1.l0 k x0 x7 (wrap64 (x8 + 1)) bt103.2.1 bt103.2.2.1 bt103.2.2.2))) else (none)) else (none)) else (some ((-1), x2000, x2001, x2002))
def api_Unit_64__items_unit_1.f (k : Nat) (l0 : List (S61)) (s1_0 : ByteArray) (s1_1 : Int) (s1_2 : Int) : Option (Int × ByteArray × Int × Int) := api_Unit_64__items_unit_1.l0 k l0 (l0.length : Int) 0 s1_0 s1_1 s1_2
theorem api_Unit_64__items_unit_1.mono_l : ∀ k, (∀ y0 y1 y2 y3 y4 y5, LeO (api_Unit_64__items_unit_1.l0 k y0 y1 y2 y3 y4 y5) (api_Unit_64__items_unit_1.l0 (k + 1) y0 y1 y2 y3 y4 y5))
  | 0 => fun _ _ _ _ _ _ r h => by simp [api_Unit_64__items_unit_1.l0] at h
  | k + 1 => by
    have ih0 := api_Unit_64__items_unit_1.mono_l k
    · intro y0 y1 y2 y3 y4 y5
      unfold api_Unit_64__items_unit_1.l0
      repeat' first
      | (with_reducible exact ih0 _ _ _ _ _ _)
      | (with_reducible exact LeO.refl _)
      | (with_reducible exact LeO.none _)
      | (with_reducible refine LeO.ite ?_ ?_)
      | (with_reducible refine LeO.bind ?_ (fun _ => ?_))
      | exact ih0 _ _ _ _ _ _
      | exact LeO.none _
      | refine LeO.ite ?_ ?_
      | refine LeO.bind ?_ (fun _ => ?_)
theorem api_Unit_64__items_unit_1.mono : ∀ a0 a1 a2 a3 k, LeO (api_Unit_64__items_unit_1.f k a0 a1 a2 a3) (api_Unit_64__items_unit_1.f (k + 1) a0 a1 a2 a3) := by
 intro a0 a1 a2 a3 k
 have ih0 := api_Unit_64__items_unit_1.mono_l k
 unfold api_Unit_64__items_unit_1.f
 repeat' first
   | (with_reducible exact ih0 _ _ _ _ _ _)
   | (with_reducible exact LeO.refl _)
   | (with_reducible exact LeO.none _)
   | (with_reducible refine LeO.ite ?_ ?_)
   | (with_reducible refine LeO.bind ?_ (fun _ => ?_))
   | exact ih0 _ _ _ _ _ _
   | exact LeO.none _
   | refine LeO.ite ?_ ?_
   | refine LeO.bind ?_ (fun _ => ?_)
set_option maxHeartbeats 8000000 in
set_option maxRecDepth 100000 in
theorem api_Unit_64__items_unit_1.calls (k : Nat) (A0 : Option Addr) (c0 : Nat) (l0 : List (S61)) (g : Nat) (s1_0 : ByteArray) (s1_1 : Int) (s1_2 : Int) (r1 : Int) (r2 : ByteArray) (r3 : Int) (r4 : Int) (w0 w : World) (hI : IsS61 w0 w g s1_0 s1_1 s1_2) (hB : Below w0.heap.size w0 w) (hr0 : ∀ W_, KeepBut w W_ g none → Kd.C k61 W_ A0 l0.length l0) (hc0 : l0.length ≤ c0) (h : api_Unit_64__items_unit_1.f k l0 s1_0 s1_1 s1_2 = some (r1, r2, r3, r4)) :
    Calls Try.prog 64 #[.slice A0 l0.length c0, .func (.func 53) #[] #[.pointer (some ⟨g, 0, none⟩)]] w fun e w' => e = .returned (.int .i64 r1) ∧ IsS61 w0 w' g r2 r3 r4 ∧ Below w0.heap.size w0 w' ∧ KeepBut w w' g none := by
 have hu61 := Try.underlying61
 have HR0 := Aside0.mk hr0
 have HC0 := Aside0.mk hc0
 clear hr0 hc0
 have HI1 := Aside0.mk hI
 have HK := Aside0.mk (KeepBut.refl w g none)
 have HL := Aside0.mk hB.size
 clear hI
 have HW0 := Aside0.mk hB.size
 have HB := Aside0.mk hB
 clear hB
 have H : (api_Unit_64__items_unit_1.l0 k l0 (l0.length : Int) 0 s1_0 s1_1 s1_2) = some (r1, r2, r3, r4) := h
 clear h
 have H' := Aside0.mk H
 clear H
 go_enter Try.func64, Try.ntmps64
 go_wp2
 go_loopg [8] k (fun kq v8 w' => ∃ (x8_1 : Int), v8 = .int .i64 x8_1 ∧ Aside0 (api_Unit_64__items_unit_1.l0 kq l0 (l0.length : Int) x8_1 s1_0 s1_1 s1_2 = some (r1, r2, r3, r4)) ∧ Aside0 (kq ≤ k) ∧ Aside0 (IsS61 w0 w' g s1_0 s1_1 s1_2) ∧ Aside0 (KeepBut w w' g none) ∧ Aside0 (Below w0.heap.size w0 w'))
 case atStart => exact ⟨(0), (by first | rfl | (simp; done) | (simp [*]; done)), H', ⟨Nat.le_refl _⟩, ⟨by repeat (first | (with_reducible first | exact HI1.out | apply IsS61.alloc | apply IsS61.drewN | apply IsS61.drew | apply IsS61.set_0 | apply IsS61.set_1 | apply IsS61.set_2) | exact HI1.out)⟩, ⟨by repeat (first | (with_reducible first | exact HK.out | apply KeepBut.set_ | apply keep_drewN | apply keep_drew | apply keep_alloc) | exact HK.out)⟩, ⟨by repeat (first | (with_reducible first | exact HB.out | apply below_alloc | apply pw_below_drewN | apply below_drew1 | refine below_set ?_ (IsS61.ge HI1.out)) | exact HB.out)⟩⟩
 case round =>
  clear H'
  try clear p2
  obtain ⟨x8_1, rfl, HA, HK1, HI1, HK, HB⟩ := hrel
  cases gk with
  | zero => exact absurd HA.out (by simp [api_Unit_64__items_unit_1.l0])
  | succ k1 =>
   have H := HA.out
   clear HA
   simp only [api_Unit_64__items_unit_1.l0] at H
   by_cases c3 : x8_1 < (l0.length : Int)
   ·rw [if_pos c3] at H
    have c3b0 : decide (x8_1 < (l0.length : Int)) = true := decide_eq_true c3
    clear c3
    by_cases c4 : 0 ≤ x8_1
    ·rw [if_pos c4] at H
     have c4b0 : decide (0 ≤ x8_1) = true := decide_eq_true c4
     clear c4
     by_cases c5 : x8_1 < (l0.length : Int)
     ·rw [if_pos c5] at H
      have c5b0 : decide (x8_1 < (l0.length : Int)) = true := decide_eq_true c5
      clear c5
      replace H := Option.bind_eq_some_iff.mp H
      obtain ⟨⟨t103, t104, t105, t106⟩, A60, H⟩ := H
      replace H : (if t103 = true then (some (x8_1, t104, t105, t106)) else (api_Unit_64__items_unit_1.l0 k1 l0 (l0.length : Int) (wrap64 (x8_1 + 1)) t104 t105 t106)) = some (r1, r2, r3, r4) := H
      have A6 := Aside0.mk A60
      clear A60
      by_cases c7 : t103 = true
      ·subst c7
       have H1 : (some (x8_1, t104, t105, t106)) = some (r1, r2, r3, r4) := by rw [if_pos rfl] at H; exact H
       clear H
       have H := H1
       clear H1
       simp only [Option.some.injEq, Prod.mk.injEq] at H
       obtain ⟨rfl, rfl, rfl, rfl⟩ := H
       have p102 : 0 ≤ (x8_1 : Int) := of_decide_eq_true (by first | (with_reducible assumption) | assumption)
       have q102 : x8_1 < (l0.length : Int) := of_decide_eq_true (by first | (with_reducible assumption) | assumption)
       obtain ⟨ad102, e102, hx102_0, hx102_1, hx102_2⟩ := at_T61 (Kd.C_foot_now HR0.out HK.out) x8_1 p102 q102
       cases e102
       replace p102 := eq_true p102
       replace q102 := eq_true q102
       go_wp2_with (first | (go_at_call 53; (with_reducible refine (items_unit_1.calls ((rd_T61 l0 x8_1).f0) ((rd_T61 l0 x8_1).f1.f0) ((rd_T61 l0 x8_1).f1.f1) g s1_0 s1_1 s1_2 true t104 t105 t106 w0 _ ?side1 ?side2 A6.out).mono ?_); (case side1 => repeat (first | (with_reducible first | exact HI1.out | apply IsS61.alloc | apply IsS61.drewN | apply IsS61.drew | apply IsS61.set_0 | apply IsS61.set_1 | apply IsS61.set_2) | exact HI1.out)); (case side2 => repeat (first | (with_reducible first | exact HB.out | apply below_alloc | apply pw_below_drewN | apply below_drew1 | refine below_set ?_ (IsS61.ge HI1.out)) | exact HB.out)); rintro e w8 ⟨rfl, hi, hb, hk⟩; have n0_ := Aside0.mk (KeepBut.trans (by repeat (first | (with_reducible first | exact HK.out | apply KeepBut.set_ | apply keep_drewN | apply keep_drew | apply keep_alloc) | exact HK.out)) hk (.inl rfl)); have n1_ := Aside0.mk (hb); have n2_ := Aside0.mk (hi); clear HK; clear HB; clear HI1; have HK := n0_; have HB := n1_; have HI1 := n2_; clear n0_ n1_ n2_; (try clear hb); (try clear hb2); (try clear hk); (try clear hi)))
       go_ret
       exact ⟨by first | rfl | (simp [errW_none, errW_some] <;> rfl) | (simp [*, errW_none, errW_some] <;> rfl), by repeat (first | (with_reducible first | exact HI1.out | apply IsS61.alloc | apply IsS61.drewN | apply IsS61.drew | apply IsS61.set_0 | apply IsS61.set_1 | apply IsS61.set_2) | exact HI1.out), by repeat (first | (with_reducible first | exact HB.out | apply below_alloc | apply pw_below_drewN | apply below_drew1 | refine below_set ?_ (IsS61.ge HI1.out)) | exact HB.out), by repeat (first | (with_reducible first | exact HK.out | apply KeepBut.set_ | apply keep_drewN | apply keep_drew | apply keep_alloc) | exact HK.out)⟩
      ·replace c7 := Bool.eq_false_iff.mpr c7
       subst c7
       have H1 : (api_Unit_64__items_unit_1.l0 k1 l0 (l0.length : Int) (wrap64 (x8_1 + 1)) t104 t105 t106) = some (r1, r2, r3, r4) := by rw [if_neg (show ¬ (false = true) by decide)] at H; exact H
       clear H
       have H := H1
       clear H1
       have H' := Aside0.mk H
       clear H
       have p102 : 0 ≤ (x8_1 : Int) := of_decide_eq_true (by first | (with_reducible assumption) | assumption)
       have q102 : x8_1 < (l0.length : Int) := of_decide_eq_true (by first | (with_reducible assumption) | assumption)
       obtain ⟨ad102, e102, hx102_0, hx102_1, hx102_2⟩ := at_T61 (Kd.C_foot_now HR0.out HK.out) x8_1 p102 q102
       cases e102
       replace p102 := eq_true p102
       replace q102 := eq_true q102
       go_wp2_with (first | (go_at_call 53; (with_reducible refine (items_unit_1.calls ((rd_T61 l0 x8_1).f0) ((rd_T61 l0 x8_1).f1.f0) ((rd_T61 l0 x8_1).f1.f1) g s1_0 s1_1 s1_2 false t104 t105 t106 w0 _ ?side1 ?side2 A6.out).mono ?_); (case side1 => repeat (first | (with_reducible first | exact HI1.out | apply IsS61.alloc | apply IsS61.drewN | apply IsS61.drew | apply IsS61.set_0 | apply IsS61.set_1 | apply IsS61.set_2) | exact HI1.out)); (case side2 => repeat (first | (with_reducible first | exact HB.out | apply below_alloc | apply pw_below_drewN | apply below_drew1 | refine below_set ?_ (IsS61.ge HI1.out)) | exact HB.out)); rintro e w9 ⟨rfl, hi, hb, hk⟩; have n0_ := Aside0.mk (KeepBut.trans (by repeat (first | (with_reducible first | exact HK.out | apply KeepBut.set_ | apply keep_drewN | apply keep_drew | apply keep_alloc) | exact HK.out)) hk (.inl rfl)); have n1_ := Aside0.mk (hb); have n2_ := Aside0.mk (hi); clear HK; clear HB; clear HI1; have HK := n0_; have HB := n1_; have HI1 := n2_; clear n0_ n1_ n2_; (try clear hb); (try clear hb2); (try clear hk); (try clear hi)))
       have HQ0_ : s1_0 = t104 := by (have hh := A6.out; simp only [items_unit_1.f, Option.some.injEq, Prod.mk.injEq] at hh; exact hh.2.1)
       have HQ1_ : s1_1 = t105 := by (have hh := A6.out; simp only [items_unit_1.f, Option.some.injEq, Prod.mk.injEq] at hh; exact hh.2.2.1)
       have HQ2_ : s1_2 = t106 := by (have hh := A6.out; simp only [items_unit_1.f, Option.some.injEq, Prod.mk.injEq] at hh; exact hh.2.2.2)
       subst HQ0_
       subst HQ1_
       subst HQ2_
       go_roundg k1
       case measure => have := HK1.out; omega
       case rel => exact ⟨(wrap64 (x8_1 + 1)), (by first | rfl | (simp; done) | (simp [*]; done)), H', ⟨by have := HK1.out; omega⟩, ⟨by repeat (first | (with_reducible first | exact HI1.out | apply IsS61.alloc | apply IsS61.drewN | apply IsS61.drew | apply IsS61.set_0 | apply IsS61.set_1 | apply IsS61.set_2) | exact HI1.out)⟩, ⟨by repeat (first | (with_reducible first | exact HK.out | apply KeepBut.set_ | apply keep_drewN | apply keep_drew | apply keep_alloc) | exact HK.out)⟩, ⟨by repeat (first | (with_reducible first | exact HB.out | apply below_alloc | apply pw_below_drewN | apply below_drew1 | refine below_set ?_ (IsS61.ge HI1.out)) | exact HB.out)⟩⟩
     ·rw [if_neg c5] at H
      exact absurd H (by simp)
    ·rw [if_neg c4] at H
     exact absurd H (by simp)
   ·rw [if_neg c3] at H
    have c3b0 : decide (x8_1 < (l0.length : Int)) = false := decide_eq_false c3
    clear c3
    simp only [Option.some.injEq, Prod.mk.injEq] at H
    obtain ⟨rfl, rfl, rfl, rfl⟩ := H
    go_wp2
    go_ret
    exact ⟨by first | rfl | (simp [errW_none, errW_some] <;> rfl) | (simp [*, errW_none, errW_some] <;> rfl), by repeat (first | (with_reducible first | exact HI1.out | apply IsS61.alloc | apply IsS61.drewN | apply IsS61.drew | apply IsS61.set_0 | apply IsS61.set_1 | apply IsS61.set_2) | exact HI1.out), by repeat (first | (with_reducible first | exact HB.out | apply below_alloc | apply pw_below_drewN | apply below_drew1 | refine below_set ?_ (IsS61.ge HI1.out)) | exact HB.out), by repeat (first | (with_reducible first | exact HK.out | apply KeepBut.set_ | apply keep_drewN | apply keep_drew | apply keep_alloc) | exact HK.out)⟩

theorem api_Unit_64__items_unit_1.keeps : ∀ (k : Nat) (l : List S61) (n x : Int) (s0 : ByteArray) (s1 s2 : Int) (r : Int × ByteArray × Int × Int), api_Unit_64__items_unit_1.l0 k l n x s0 s1 s2 = some r → r.2 = (s0, s1, s2)
  | 0 => fun _ _ _ _ _ _ r h => by simp [api_Unit_64__items_unit_1.l0] at h
  | k + 1 => fun l n x s0 s1 s2 r h => by
    unfold api_Unit_64__items_unit_1.l0 at h
    split at h
    · split at h
      · split at h
        · simp only [items_unit_1.f, Option.bind_some] at h
          split at h
          · simp only [Option.some.injEq] at h
            rw [← h]
          · exact api_Unit_64__items_unit_1.keeps k l n _ s0 s1 s2 r h
        · cases h
      · cases h
    · simp only [Option.some.injEq] at h
      rw [← h]
end Go.Proofs.Ytoppdlideonjjaa.M
end
section
-- Written by mprint.py (a program of this session) over the kit's print.
namespace Go.Proofs.Ytoppdlideonjjaa.M
open Go.RowKit Go.Proofs.YtoppdlideonjjaaW.PrintWords Go.Proofs.YtoppdlideonjjaaW.PrintLast Go.Proofs.YtoppdlideonjjaaW.PrintMore
attribute [local go_sem] max2_int min2_int max_two min_two max_three min_three max_four min_four   -- for this text's walks alone
set_option linter.unusedVariables false
set_option linter.unusedSimpArgs false

/-! ### api_Unit_54__items_unit_1: function 54 -/
def api_Unit_54__items_unit_1.f (k : Nat) (l0 : List (S61)) (s1_0 : ByteArray) (s1_1 : Int) (s1_2 : Int) : Option (Bool × ByteArray × Int × Int) := (api_Unit_64__items_unit_1.f k l0 s1_0 s1_1 s1_2).bind fun bt107 => (some (decide (bt107.1 ≥ 0), bt107.2.1, bt107.2.2.1, bt107.2.2.2))
theorem api_Unit_54__items_unit_1.mono : ∀ a0 a1 a2 a3 k, LeO (api_Unit_54__items_unit_1.f k a0 a1 a2 a3) (api_Unit_54__items_unit_1.f (k + 1) a0 a1 a2 a3) := by
 intro a0 a1 a2 a3 k
 unfold api_Unit_54__items_unit_1.f
 repeat' first
   | (with_reducible exact api_Unit_64__items_unit_1.mono _ _ _ _ _)
   | (with_reducible exact LeO.refl _)
   | (with_reducible exact LeO.none _)
   | (with_reducible refine LeO.ite ?_ ?_)
   | (with_reducible refine LeO.bind ?_ (fun _ => ?_))
   | exact api_Unit_64__items_unit_1.mono _ _ _ _ _
   | exact LeO.none _
   | refine LeO.ite ?_ ?_
   | refine LeO.bind ?_ (fun _ => ?_)
set_option maxHeartbeats 8000000 in
set_option maxRecDepth 100000 in
theorem api_Unit_54__items_unit_1.calls (k : Nat) (A0 : Option Addr) (c0 : Nat) (l0 : List (S61)) (g : Nat) (s1_0 : ByteArray) (s1_1 : Int) (s1_2 : Int) (r1 : Bool) (r2 : ByteArray) (r3 : Int) (r4 : Int) (w0 w : World) (hI : IsS61 w0 w g s1_0 s1_1 s1_2) (hB : Below w0.heap.size w0 w) (hr0 : ∀ W_, KeepBut w W_ g none → Kd.C k61 W_ A0 l0.length l0) (hc0 : l0.length ≤ c0) (h : api_Unit_54__items_unit_1.f k l0 s1_0 s1_1 s1_2 = some (r1, r2, r3, r4)) :
    Calls Try.prog 54 #[.slice A0 l0.length c0, .func (.func 53) #[] #[.pointer (some ⟨g, 0, none⟩)]] w fun e w' => e = .returned (.bool r1) ∧ IsS61 w0 w' g r2 r3 r4 ∧ Below w0.heap.size w0 w' ∧ KeepBut w w' g none := by
 have HR0 := Aside0.mk hr0
 have HC0 := Aside0.mk hc0
 clear hr0 hc0
 have HI1 := Aside0.mk hI
 have HK := Aside0.mk (KeepBut.refl w g none)
 have HL := Aside0.mk hB.size
 clear hI
 have HW0 := Aside0.mk hB.size
 have HB := Aside0.mk hB
 clear hB
 have H : ((api_Unit_64__items_unit_1.f k l0 s1_0 s1_1 s1_2).bind fun bt107 => (some (decide (bt107.1 ≥ 0), bt107.2.1, bt107.2.2.1, bt107.2.2.2))) = some (r1, r2, r3, r4) := h
 clear h
 replace H := Option.bind_eq_some_iff.mp H
 obtain ⟨⟨t107, t108, t109, t110⟩, A30, H⟩ := H
 replace H : (some (decide (t107 ≥ 0), t108, t109, t110)) = some (r1, r2, r3, r4) := H
 have A3 := Aside0.mk A30
 clear A30
 simp only [Option.some.injEq, Prod.mk.injEq] at H
 obtain ⟨rfl, rfl, rfl, rfl⟩ := H
 go_enter Try.func54, Try.ntmps54
 go_wp2_with (first | ((with_reducible refine gate_callee (f := 64) rfl ?_); refine goesL_ (some 7) rfl rfl Try.func64 (by kernel_rfl) rfl #[.slice A0 l0.length c0, .func (.func 53) #[] #[.pointer (some ⟨g, 0, none⟩)]] rfl (by (try simp only [List.map_toArray, List.map_cons, List.map_nil]); first | done | rfl | (simp only [List.length_drop, List.length_take]; rfl)) ?_; (with_reducible refine (api_Unit_64__items_unit_1.calls k _ _ l0 g s1_0 s1_1 s1_2 t107 t108 t109 t110 w0 _ ?side1 ?side2 ?side3 ?side4 A3.out).mono ?_); (case side1 => repeat (first | (with_reducible first | exact HI1.out | apply IsS61.alloc | apply IsS61.drewN | apply IsS61.drew | apply IsS61.set_0 | apply IsS61.set_1 | apply IsS61.set_2) | exact HI1.out)); (case side2 => repeat (first | (with_reducible first | exact HB.out | apply below_alloc | apply pw_below_drewN | apply below_drew1 | refine below_set ?_ (IsS61.ge HI1.out)) | exact HB.out)); (case side3 => exact Kd.C_foot_step HR0.out (by repeat (first | (with_reducible first | exact HK.out | apply KeepBut.set_ | apply keep_drewN | apply keep_drew | apply keep_alloc) | exact HK.out))); (case side4 => exact HC0.out); rintro e w4 ⟨rfl, hi, hb, hk⟩; refine ⟨_, rfl, ?_⟩; have n0_ := Aside0.mk (KeepBut.trans (by repeat (first | (with_reducible first | exact HK.out | apply KeepBut.set_ | apply keep_drewN | apply keep_drew | apply keep_alloc) | exact HK.out)) hk (.inl rfl)); have n1_ := Aside0.mk (hb); have n2_ := Aside0.mk (hi); clear HK; clear HB; clear HI1; have HK := n0_; have HB := n1_; have HI1 := n2_; clear n0_ n1_ n2_; (try clear hb); (try clear hb2); (try clear hk); (try clear hi)))
 go_ret
 exact ⟨by first | rfl | (simp [errW_none, errW_some] <;> rfl) | (simp [*, errW_none, errW_some] <;> rfl), by repeat (first | (with_reducible first | exact HI1.out | apply IsS61.alloc | apply IsS61.drewN | apply IsS61.drew | apply IsS61.set_0 | apply IsS61.set_1 | apply IsS61.set_2) | exact HI1.out), by repeat (first | (with_reducible first | exact HB.out | apply below_alloc | apply pw_below_drewN | apply below_drew1 | refine below_set ?_ (IsS61.ge HI1.out)) | exact HB.out), by repeat (first | (with_reducible first | exact HK.out | apply KeepBut.set_ | apply keep_drewN | apply keep_drew | apply keep_alloc) | exact HK.out)⟩

theorem api_Unit_54__items_unit_1.keeps (k : Nat) (l : List S61) (s0 : ByteArray) (s1 s2 : Int) (r : Bool × ByteArray × Int × Int) (h : api_Unit_54__items_unit_1.f k l s0 s1 s2 = some r) : r.2 = (s0, s1, s2) := by
  unfold api_Unit_54__items_unit_1.f at h
  obtain ⟨q, hq, h⟩ := Option.bind_eq_some_iff.1 h
  have hk := api_Unit_64__items_unit_1.keeps _ _ _ _ _ _ _ _ hq
  simp only [Option.some.injEq] at h
  rw [← h, hk]
end Go.Proofs.Ytoppdlideonjjaa.M
end
section
-- Written by mprint.py (a program of this session) over the kit's print.
namespace Go.Proofs.Ytoppdlideonjjaa.M
open Go.RowKit Go.Proofs.YtoppdlideonjjaaW.PrintWords Go.Proofs.YtoppdlideonjjaaW.PrintLast Go.Proofs.YtoppdlideonjjaaW.PrintMore
attribute [local go_sem] max2_int min2_int max_two min_two max_three min_three max_four min_four   -- for this text's walks alone
set_option linter.unusedVariables false
set_option linter.unusedSimpArgs false

/-! ### items_unit: function 34 -/
def items_unit.j0 : Nat → Bool → ByteArray → Int → Int → Option (Int)
  | 0, _, _, _, _ => none
  | k + 1, x25, x113000, x113001, x113002 => if x25 = true then (some 8) else ((frac_Right.f k x113001 x113002).bind fun t122 => (if t122 = true then (if x113001 ≤ 0 then (some 2) else (some 0)) else (some 2)))
def items_unit.f (k : Nat) (a0_0 : ByteArray) (a0_1 : ByteArray) (a0_2 : Int) (a0_3 : Int) (l0_4 : List (S61)) (a1 : Int) (a2_0 : ByteArray) (a2_1 : Int) (a2_2 : Int) : Option (Int) := (words_Code.f k a2_0).bind fun t113 => (if t113 = true then (if a2_0.toList = a0_1.toList then (items_unit.j0 k true a2_0 a2_1 a2_2) else (if 0 ≤ a1 then (if a1 ≤ (l0_4.length : Int) then ((api_Unit_54__items_unit_1.f k (l0_4.take (a1 : Int).toNat) a2_0 a2_1 a2_2).bind fun bt118 => (items_unit.j0 k bt118.1 bt118.2.1 bt118.2.2.1 bt118.2.2.2)) else (none)) else (none))) else (some 7))
theorem items_unit.mono_l : ∀ k, (∀ y0 y1 y2 y3, LeO (items_unit.j0 k y0 y1 y2 y3) (items_unit.j0 (k + 1) y0 y1 y2 y3))
  | 0 => fun _ _ _ _ r h => by simp [items_unit.j0] at h
  | k + 1 => by
    have ih0 := items_unit.mono_l k
    · intro y0 y1 y2 y3
      unfold items_unit.j0
      repeat' first
      | (with_reducible exact ih0 _ _ _ _)
      | (with_reducible exact api_Unit_54__items_unit_1.mono _ _ _ _ _)
      | (with_reducible exact frac_Right.mono _ _ _)
      | (with_reducible exact words_Code.mono _ _)
      | (with_reducible exact LeO.refl _)
      | (with_reducible exact LeO.none _)
      | (with_reducible refine LeO.ite ?_ ?_)
      | (with_reducible refine LeO.bind ?_ (fun _ => ?_))
      | exact ih0 _ _ _ _
      | exact api_Unit_54__items_unit_1.mono _ _ _ _ _
      | exact frac_Right.mono _ _ _
      | exact words_Code.mono _ _
      | exact LeO.none _
      | refine LeO.ite ?_ ?_
      | refine LeO.bind ?_ (fun _ => ?_)
theorem items_unit.mono : ∀ a0 a1 a2 a3 a4 a5 a6 a7 a8 k, LeO (items_unit.f k a0 a1 a2 a3 a4 a5 a6 a7 a8) (items_unit.f (k + 1) a0 a1 a2 a3 a4 a5 a6 a7 a8) := by
 intro a0 a1 a2 a3 a4 a5 a6 a7 a8 k
 have ih0 := items_unit.mono_l k
 unfold items_unit.f
 repeat' first
   | (with_reducible exact ih0 _ _ _ _)
   | (with_reducible exact api_Unit_54__items_unit_1.mono _ _ _ _ _)
   | (with_reducible exact frac_Right.mono _ _ _)
   | (with_reducible exact words_Code.mono _ _)
   | (with_reducible exact LeO.refl _)
   | (with_reducible exact LeO.none _)
   | (with_reducible refine LeO.ite ?_ ?_)
   | (with_reducible refine LeO.bind ?_ (fun _ => ?_))
   | exact ih0 _ _ _ _
   | exact api_Unit_54__items_unit_1.mono _ _ _ _ _
   | exact frac_Right.mono _ _ _
   | exact words_Code.mono _ _
   | exact LeO.none _
   | refine LeO.ite ?_ ?_
   | refine LeO.bind ?_ (fun _ => ?_)
set_option maxHeartbeats 8000000 in
set_option maxRecDepth 100000 in
theorem items_unit.calls (k : Nat) (a0_0 : ByteArray) (a0_1 : ByteArray) (a0_2 : Int) (a0_3 : Int) (A0_4 : Option Addr) (c0_4 : Nat) (l0_4 : List (S61)) (a1 : Int) (a2_0 : ByteArray) (a2_1 : Int) (a2_2 : Int) (r : Int) (w : World) (hr0_4 : Kd.C k61 w A0_4 l0_4.length l0_4) (hc0_4 : l0_4.length ≤ c0_4) (h : items_unit.f k a0_0 a0_1 a0_2 a0_3 l0_4 a1 a2_0 a2_1 a2_2 = some r) :
    Calls Try.prog 34 #[.agg #[.string a0_0, .string a0_1, .int .i64 a0_2, .int .i64 a0_3, .slice A0_4 l0_4.length c0_4], .int .i64 a1, .agg #[.string a2_0, .int .i64 a2_1, .int .i64 a2_2]] w fun e w' => e = .returned (.int .i64 r) ∧ Below w.heap.size w w' := by
 have hu24 := Try.underlying24
 have hu61 := Try.underlying61
 have hu9 := Try.underlying9
 have hu22 := Try.underlying22
 have hu35 := Try.underlying35
 have hu3 := Try.underlying3
 have HR0_4 := Aside0.mk hr0_4
 have HC0_4 := Aside0.mk hc0_4
 clear hr0_4 hc0_4
 have HB := Aside0.mk (Below.refl w.heap.size w)
 have H : ((words_Code.f k a2_0).bind fun t113 => (if t113 = true then (if a2_0.toList = a0_1.toList then (items_unit.j0 k true a2_0 a2_1 a2_2) else (if 0 ≤ a1 then (if a1 ≤ (l0_4.length : Int) then ((api_Unit_54__items_unit_1.f k (l0_4.take (a1 : Int).toNat) a2_0 a2_1 a2_2).bind fun bt118 => (items_unit.j0 k bt118.1 bt118.2.1 bt118.2.2.1 bt118.2.2.2)) else (none)) else (none))) else (some 7))) = some r := h
 clear h
 replace H := Option.bind_eq_some_iff.mp H
 obtain ⟨t113, A40, H⟩ := H
 replace H : (if t113 = true then (if a2_0.toList = a0_1.toList then (items_unit.j0 k true a2_0 a2_1 a2_2) else (if 0 ≤ a1 then (if a1 ≤ (l0_4.length : Int) then ((api_Unit_54__items_unit_1.f k (l0_4.take (a1 : Int).toNat) a2_0 a2_1 a2_2).bind fun bt118 => (items_unit.j0 k bt118.1 bt118.2.1 bt118.2.2.1 bt118.2.2.2)) else (none)) else (none))) else (some 7)) = some r := H
 have A4 := Aside0.mk A40
 clear A40
 by_cases c5 : t113 = true
 ·subst c5
  have H1 : (if a2_0.toList = a0_1.toList then (items_unit.j0 k true a2_0 a2_1 a2_2) else (if 0 ≤ a1 then (if a1 ≤ (l0_4.length : Int) then ((api_Unit_54__items_unit_1.f k (l0_4.take (a1 : Int).toNat) a2_0 a2_1 a2_2).bind fun bt118 => (items_unit.j0 k bt118.1 bt118.2.1 bt118.2.2.1 bt118.2.2.2)) else (none)) else (none))) = some r := by rw [if_pos rfl] at H; exact H
  clear H
  have H := H1
  clear H1
  have HC6 := Aside0.mk H
  clear H
  go_enter Try.func34, Try.ntmps34
  go_upto_region 4 with (first | ((with_reducible refine gate_dst (N := 3) rfl ?_); refine box_event ?hg (N := 3) ?hd (cs := #[.string a0_0, .string a0_1, .int .i64 a0_2, .int .i64 a0_3, .slice A0_4 l0_4.length c0_4]) (t := 24) ?hr ?_; (case hd => rfl); (case hg => rfl); (case hr => first | (go_simp; done) | (go_simp; rfl)); intro gb111 hg w7 hbox hb; have n0_ := Aside0.mk (below_step (by repeat (first | (with_reducible first | exact HB.out | apply below_alloc | apply pw_below_drewN | apply below_drew1) | exact HB.out)) hb); have n1_ := Aside0.mk (hbox); have n2_ := Aside0.mk ((by rw [hg]; exact (below_size (by repeat (first | (with_reducible first | exact HB.out | apply below_alloc | apply pw_below_drewN | apply below_drew1) | exact HB.out))) : w.heap.size ≤ gb111)); have n3_ := Aside0.mk ((by rw [hg]; exact (below_size (by repeat (first | (with_reducible first | exact HB.out | apply below_alloc | apply pw_below_drewN | apply below_drew1) | exact HB.out))) : w.heap.size ≤ gb111)); clear HB; have HB := n0_; have BK111 := n1_; have GW111 := n2_; have GE111 := n3_; clear n0_ n1_ n2_ n3_; clear hb hbox hg) | ((with_reducible refine gate_dst (N := 5) rfl ?_); refine box_event ?hg (N := 5) ?hd (cs := #[.string a2_0, .int .i64 a2_1, .int .i64 a2_2]) (t := 61) ?hr ?_; (case hd => rfl); (case hg => rfl); (case hr => first | (go_simp; done) | (go_simp; rfl)); intro gb112 hg w8 hbox hb; have n0_ := Aside0.mk (blk_below (g := gb111) (o := .cells #[.string a0_0, .string a0_1, .int .i64 a0_2, .int .i64 a0_3, .slice A0_4 l0_4.length c0_4] 24 (0, 0)) (by (with_reducible repeat (first | refine blk_drewN ?_ _ | refine blk_drew ?_ | refine blk_alloc ?_ _)); exact BK111.out) hb); have n1_ := Aside0.mk (below_step (by repeat (first | (with_reducible first | exact HB.out | apply below_alloc | apply pw_below_drewN | apply below_drew1 | refine below_set ?_ GE111.out) | exact HB.out)) hb); have n2_ := Aside0.mk ((show IsS61 w w8 gb112 a2_0 a2_1 a2_2 from ⟨hbox, (by rw [hg]; exact (below_size (by repeat (first | (with_reducible first | exact HB.out | apply below_alloc | apply pw_below_drewN | apply below_drew1 | refine below_set ?_ GE111.out) | exact HB.out))) : w.heap.size ≤ gb112)⟩)); have n3_ := Aside0.mk ((by rw [hg]; exact (below_size (by repeat (first | (with_reducible first | exact HB.out | apply below_alloc | apply pw_below_drewN | apply below_drew1 | refine below_set ?_ GE111.out) | exact HB.out))) : w.heap.size ≤ gb112)); have n4_ := Aside0.mk ((by rw [hg]; exact (below_size (by repeat (first | (with_reducible first | exact HB.out | apply below_alloc | apply pw_below_drewN | apply below_drew1 | refine below_set ?_ GE111.out) | exact HB.out))) : w.heap.size ≤ gb112)); have n5_ := Aside0.mk ((by rw [hg]; exact Nat.ne_of_lt (blk_lt (g := gb111) (o := .cells #[.string a0_0, .string a0_1, .int .i64 a0_2, .int .i64 a0_3, .slice A0_4 l0_4.length c0_4] 24 (0, 0)) (by (with_reducible repeat (first | refine blk_drewN ?_ _ | refine blk_drew ?_ | refine blk_alloc ?_ _)); exact BK111.out)) : gb111 ≠ gb112)); have n6_ := Aside0.mk ((by rw [hg]; exact Nat.ne_of_gt (blk_lt (g := gb111) (o := .cells #[.string a0_0, .string a0_1, .int .i64 a0_2, .int .i64 a0_3, .slice A0_4 l0_4.length c0_4] 24 (0, 0)) (by (with_reducible repeat (first | refine blk_drewN ?_ _ | refine blk_drew ?_ | refine blk_alloc ?_ _)); exact BK111.out)) : gb112 ≠ gb111)); clear BK111; clear HB; have BK111 := n0_; have HB := n1_; have HI112 := n2_; have GW112 := n3_; have GE112 := n4_; have NB111_112 := n5_; have NB112_111 := n6_; clear n0_ n1_ n2_ n3_ n4_ n5_ n6_; clear hb hbox hg; obtain ⟨HGz9, hgz9⟩ := HI112.out; have hcz9_0 := cellS61_0 HGz9; have hcz9_1 := cellS61_1 HGz9; have hcz9_2 := cellS61_2 HGz9; have hfz9_0 := blk_frozen HGz9 0; have hfz9_1 := blk_frozen HGz9 1; have hfz9_2 := blk_frozen HGz9 2; clear HGz9 hgz9) | ((with_reducible refine gate_callee (f := 33) rfl ?_); refine goesL_ (some 10) rfl rfl Try.func33 (by kernel_rfl) rfl #[.string a2_0] rfl (by (try simp only [List.map_toArray, List.map_cons, List.map_nil]); first | done | rfl | (simp only [List.length_drop, List.length_take]; rfl)) ?_; (with_reducible refine (words_Code.calls k a2_0 true _ A4.out).mono ?_); rintro e w10 ⟨rfl, hb⟩; refine ⟨_, rfl, ?_⟩; have n0_ := Aside0.mk (blk_below (g := gb111) (o := .cells #[.string a0_0, .string a0_1, .int .i64 a0_2, .int .i64 a0_3, .slice A0_4 l0_4.length c0_4] 24 (0, 0)) (by (with_reducible repeat (first | refine blk_drewN ?_ _ | refine blk_drew ?_ | refine blk_alloc ?_ _)); exact BK111.out) hb); have n1_ := Aside0.mk (IsS61.below (by repeat (first | (with_reducible first | exact HI112.out | apply IsS61.alloc | apply IsS61.drewN | apply IsS61.drew | apply IsS61.set_0 | apply IsS61.set_1 | apply IsS61.set_2 | refine IsS61.far ?_ NB112_111.out _) | exact HI112.out)) hb); have n2_ := Aside0.mk (below_step (by repeat (first | (with_reducible first | exact HB.out | apply below_alloc | apply pw_below_drewN | apply below_drew1 | refine below_set ?_ (IsS61.ge HI112.out) | refine below_set ?_ GE111.out) | exact HB.out)) hb); clear BK111; clear HI112; clear HB; have BK111 := n0_; have HI112 := n1_; have HB := n2_; clear n0_ n1_ n2_; (try clear hb); (try clear hb2); (try clear hk); (try clear hi)))
  (try simp only [Act.put, List.setIfInBounds_toArray, List.set_cons_zero, List.set_cons_succ])
  go_cut [25] (fun v25 wc => ∃ (kq : Nat) (x25_5 : Bool), v25 = .bool x25_5 ∧ Aside0 (items_unit.j0 kq x25_5 a2_0 a2_1 a2_2 = some r) ∧ Aside0 (kq ≤ k) ∧ Aside0 (wc.heap[gb111]? = some (.cells #[.string a0_0, .string a0_1, .int .i64 a0_2, .int .i64 a0_3, (.slice A0_4 l0_4.length c0_4)] 24 (0, 0))) ∧ Aside0 (IsS61 w wc gb112 a2_0 a2_1 a2_2) ∧ Aside0 (Below w.heap.size w wc))
  case first =>
   have H := HC6.out
   clear HC6
   by_cases c11 : a2_0.toList = a0_1.toList
   ·rw [if_pos c11] at H
    have c11b0 : (a2_0.toList == a0_1.toList) = true := beq_iff_eq.mpr c11
    have c11b1 : (a2_0.toList != a0_1.toList) = false := bne_eq_false_iff_eq.mpr c11
    clear c11
    (first | rw [c11b0] | (simp only [i64_w, i32_w]; rw [c11b0]) | skip)
    have H' := Aside0.mk H
    clear H
    obtain ⟨HGz12, hgz12⟩ := HI112.out
    have hcz12_0 := cellS61_0 HGz12
    have hcz12_1 := cellS61_1 HGz12
    have hcz12_2 := cellS61_2 HGz12
    have hfz12_0 := blk_frozen HGz12 0
    have hfz12_1 := blk_frozen HGz12 1
    have hfz12_2 := blk_frozen HGz12 2
    clear HGz12 hgz12
    have hnb13 := NB111_112.out
    have hnc13 := NB112_111.out
    have hcz14_0 : w10.cell? ⟨gb111, 0, none⟩ = some (.string a0_0) := (blk_cell BK111.out 0).trans rfl
    have hcz14_1 : w10.cell? ⟨gb111, 1, none⟩ = some (.string a0_1) := (blk_cell BK111.out 1).trans rfl
    have hcz14_2 : w10.cell? ⟨gb111, 2, none⟩ = some (.int .i64 a0_2) := (blk_cell BK111.out 2).trans rfl
    have hcz14_3 : w10.cell? ⟨gb111, 3, none⟩ = some (.int .i64 a0_3) := (blk_cell BK111.out 3).trans rfl
    have hcz14_4 : w10.cell? ⟨gb111, 4, none⟩ = some (.slice A0_4 l0_4.length c0_4) := (blk_cell BK111.out 4).trans rfl
    have hfz14_0 := blk_frozen BK111.out 0
    have hfz14_1 := blk_frozen BK111.out 1
    have hfz14_2 := blk_frozen BK111.out 2
    have hfz14_3 := blk_frozen BK111.out 3
    have hfz14_4 := blk_frozen BK111.out 4
    go_wp2
    go_meet
    case rel => exact ⟨_, (true), (by first | rfl | (simp; done) | (simp [*]; done)), H', ⟨by first | omega | exact Nat.le_refl _⟩, ⟨by (with_reducible repeat (first | refine blk_drewN ?_ _ | refine blk_drew ?_ | refine blk_alloc ?_ _)); exact BK111.out⟩, ⟨by repeat (first | (with_reducible first | exact HI112.out | apply IsS61.alloc | apply IsS61.drewN | apply IsS61.drew | apply IsS61.set_0 | apply IsS61.set_1 | apply IsS61.set_2 | refine IsS61.far ?_ NB112_111.out _) | exact HI112.out)⟩, ⟨by repeat (first | (with_reducible first | exact HB.out | apply below_alloc | apply pw_below_drewN | apply below_drew1 | refine below_set ?_ (IsS61.ge HI112.out) | refine below_set ?_ GE111.out) | exact HB.out)⟩⟩
   ·rw [if_neg c11] at H
    have c11b0 : (a2_0.toList == a0_1.toList) = false := beq_eq_false_iff_ne.mpr c11
    have c11b1 : (a2_0.toList != a0_1.toList) = true := bne_iff_ne.mpr c11
    (first | rw [c11b0] | (simp only [i64_w, i32_w]; rw [c11b0]) | skip)
    by_cases c15 : 0 ≤ a1
    ·rw [if_pos c15] at H
     have c15b0 := eq_true c15
     have c15b1 : decide (0 ≤ a1) = true := decide_eq_true c15
     clear c15
     by_cases c16 : a1 ≤ (l0_4.length : Int)
     ·rw [if_pos c16] at H
      have c16b0 := eq_true c16
      have c16b1 : decide (a1 ≤ (l0_4.length : Int)) = true := decide_eq_true c16
      clear c16
      obtain ⟨y114, hy114⟩ : ∃ y_ : List (S61), y_ = (l0_4.take (a1 : Int).toNat) := ⟨_, rfl⟩
      replace H : ((api_Unit_54__items_unit_1.f k y114 a2_0 a2_1 a2_2).bind fun bt118 => (items_unit.j0 k bt118.1 bt118.2.1 bt118.2.2.1 bt118.2.2.2)) = some r := by first | (rw [hy114]; with_reducible exact H) | (have H2_ := (Option.bind_some _ _).symm.trans H; rw [hy114]; with_reducible exact H2_) | (have H2_ := (Option.bind_some _ _).symm.trans H; with_reducible exact H2_) | with_reducible exact H | (rw [hy114]; exact H) | exact H
      have Ny114 := Aside0.mk hy114
      clear hy114
      replace H := Option.bind_eq_some_iff.mp H
      obtain ⟨⟨t118, t119, t120, t121⟩, A170, H⟩ := H
      replace H : (items_unit.j0 k t118 t119 t120 t121) = some r := H
      have A17 := Aside0.mk A170
      clear A170
      have H' := Aside0.mk H
      clear H
      obtain ⟨HGz18, hgz18⟩ := HI112.out
      have hcz18_0 := cellS61_0 HGz18
      have hcz18_1 := cellS61_1 HGz18
      have hcz18_2 := cellS61_2 HGz18
      have hfz18_0 := blk_frozen HGz18 0
      have hfz18_1 := blk_frozen HGz18 1
      have hfz18_2 := blk_frozen HGz18 2
      clear HGz18 hgz18
      have hnb19 := NB111_112.out
      have hnc19 := NB112_111.out
      have hcz20_0 : w10.cell? ⟨gb111, 0, none⟩ = some (.string a0_0) := (blk_cell BK111.out 0).trans rfl
      have hcz20_1 : w10.cell? ⟨gb111, 1, none⟩ = some (.string a0_1) := (blk_cell BK111.out 1).trans rfl
      have hcz20_2 : w10.cell? ⟨gb111, 2, none⟩ = some (.int .i64 a0_2) := (blk_cell BK111.out 2).trans rfl
      have hcz20_3 : w10.cell? ⟨gb111, 3, none⟩ = some (.int .i64 a0_3) := (blk_cell BK111.out 3).trans rfl
      have hcz20_4 : w10.cell? ⟨gb111, 4, none⟩ = some (.slice A0_4 l0_4.length c0_4) := (blk_cell BK111.out 4).trans rfl
      have hfz20_0 := blk_frozen BK111.out 0
      have hfz20_1 := blk_frozen BK111.out 1
      have hfz20_2 := blk_frozen BK111.out 2
      have hfz20_3 := blk_frozen BK111.out 3
      have hfz20_4 := blk_frozen BK111.out 4
      have q21 : (a1 : Int) ≤ ((l0_4.length : Int) : Int) := of_decide_eq_true (by first | (with_reducible assumption) | assumption)
      obtain ⟨i021, hi021, _, hsz21, _⟩ := info_parts info61
      have hroom21 : l0_4.length ≤ c0_4 := HC0_4.out
      have hC21 : Kd.C k61 _ A0_4 l0_4.length l0_4 := HR0_4.out
      have hcut21 := cut_to (P := Try.prog) 22 61 .i64 Try.underlying22 hi021 A0_4 l0_4.length c0_4 a1 (of_decide_eq_true (by first | (with_reducible assumption) | assumption)) q21 hroom21
      have hr21 := Kd.C_take (m := (a1 : Int).toNat) hC21 (by omega)
      have hy21 : y114.length = (a1 : Int).toNat := (by rw [Ny114.out, List.length_take]; omega)
      rw [← Ny114.out] at hr21
      rw [← hy21] at hcut21
      have HR117 := Aside0.mk hr21
      have HC117 := Aside0.mk (show y114.length ≤ c0_4 from by omega)
      clear hr21 hC21 hroom21 hi021 hsz21
      have KY21 := Aside0.mk hy21
      clear hy21
      replace q21 := eq_true q21
      go_wp2_with (first | (go_at_call 54; (with_reducible refine (api_Unit_54__items_unit_1.calls k _ _ y114 gb112 a2_0 a2_1 a2_2 t118 t119 t120 t121 w _ ?side1 ?side2 ?side3 ?side4 A17.out).mono ?_); (case side1 => repeat (first | (with_reducible first | exact HI112.out | apply IsS61.alloc | apply IsS61.drewN | apply IsS61.drew | apply IsS61.set_0 | apply IsS61.set_1 | apply IsS61.set_2 | refine IsS61.far ?_ NB112_111.out _) | exact HI112.out)); (case side2 => repeat (first | (with_reducible first | exact HB.out | apply below_alloc | apply pw_below_drewN | apply below_drew1 | refine below_set ?_ (IsS61.ge HI112.out) | refine below_set ?_ GE111.out) | exact HB.out)); (case side3 => exact Kd.C_foot_came k61_heap HR117.out (by repeat (first | (with_reducible first | exact HB.out | apply below_alloc | apply pw_below_drewN | apply below_drew1 | refine below_set ?_ (IsS61.ge HI112.out) | refine below_set ?_ GE111.out) | exact HB.out)) (IsS61.ge HI112.out)); (case side4 => exact HC117.out); rintro e w22 ⟨rfl, hi, hb, hk⟩; have n0_ := Aside0.mk (KeepBut.blk hk (g' := gb111) (o := .cells #[.string a0_0, .string a0_1, .int .i64 a0_2, .int .i64 a0_3, .slice A0_4 l0_4.length c0_4] 24 (0, 0)) (by (with_reducible repeat (first | refine blk_drewN ?_ _ | refine blk_drew ?_ | refine blk_alloc ?_ _)); exact BK111.out) NB111_112.out (by simp)); have n1_ := Aside0.mk (hb); have n2_ := Aside0.mk (hi); clear BK111; clear HB; clear HI112; have BK111 := n0_; have HB := n1_; have HI112 := n2_; clear n0_ n1_ n2_; (try clear hb); (try clear hb2); (try clear hk); (try clear hi)))
      have HQ_ := api_Unit_54__items_unit_1.keeps _ _ _ _ _ _ A17.out
      simp only [Prod.mk.injEq] at HQ_
      obtain ⟨HQ0_, HQ1_, HQ2_⟩ := HQ_
      have HQ0_ := HQ0_.symm; subst HQ0_
      have HQ1_ := HQ1_.symm; subst HQ1_
      have HQ2_ := HQ2_.symm; subst HQ2_
      go_meet
      case rel => exact ⟨_, (t118), (by first | rfl | (simp; done) | (simp [*]; done)), H', ⟨by first | omega | exact Nat.le_refl _⟩, ⟨by (with_reducible repeat (first | refine blk_drewN ?_ _ | refine blk_drew ?_ | refine blk_alloc ?_ _)); exact BK111.out⟩, ⟨by repeat (first | (with_reducible first | exact HI112.out | apply IsS61.alloc | apply IsS61.drewN | apply IsS61.drew | apply IsS61.set_0 | apply IsS61.set_1 | apply IsS61.set_2 | refine IsS61.far ?_ NB112_111.out _) | exact HI112.out)⟩, ⟨by repeat (first | (with_reducible first | exact HB.out | apply below_alloc | apply pw_below_drewN | apply below_drew1 | refine below_set ?_ (IsS61.ge HI112.out) | refine below_set ?_ GE111.out) | exact HB.out)⟩⟩
     ·rw [if_neg c16] at H
      exact absurd H (by simp)
    ·rw [if_neg c15] at H
     exact absurd H (by simp)
  case rest =>
   clear HC6
   try clear c1
   try clear p2
   try clear q2
   try clear c3
   try clear c5
   try clear c11
   try clear c11b0
   try clear c11b1
   try clear c13
   try clear c15
   try clear c15b0
   try clear c15b1
   try clear c16
   try clear c16b0
   try clear c16b1
   try clear c19
   try clear q21
   try clear hcz12_0
   try clear hcz12_1
   try clear hcz12_2
   try clear hcz14_0
   try clear hcz14_1
   try clear hcz14_2
   try clear hcz14_3
   try clear hcz14_4
   try clear hcz18_0
   try clear hcz18_1
   try clear hcz18_2
   try clear hcz20_0
   try clear hcz20_1
   try clear hcz20_2
   try clear hcz20_3
   try clear hcz20_4
   try clear hcz9_0
   try clear hcz9_1
   try clear hcz9_2
   try clear hfz12_0
   try clear hfz12_1
   try clear hfz12_2
   try clear hfz14_0
   try clear hfz14_1
   try clear hfz14_2
   try clear hfz14_3
   try clear hfz14_4
   try clear hfz18_0
   try clear hfz18_1
   try clear hfz18_2
   try clear hfz20_0
   try clear hfz20_1
   try clear hfz20_2
   try clear hfz20_3
   try clear hfz20_4
   try clear hfz9_0
   try clear hfz9_1
   try clear hfz9_2
   try clear q21
   obtain ⟨kq, x25_5, rfl, HA, HJ5, BK111, HI112, HB⟩ := hcut
   cases kq with
   | zero => exact absurd HA.out (by simp [items_unit.j0])
   | succ kj5 =>
    have H := HA.out
    clear HA
    simp only [items_unit.j0] at H
    by_cases c23 : x25_5 = true
    ·subst c23
     have H1 : (some 8) = some r := by rw [if_pos rfl] at H; exact H
     clear H
     have H := H1
     clear H1
     obtain rfl := Option.some.inj H
     go_wp2
     go_ret
     exact ⟨by first | rfl | (simp [errW_none, errW_some] <;> rfl) | (simp [*, errW_none, errW_some] <;> rfl), by repeat (first | (with_reducible first | exact HB.out | apply below_alloc | apply pw_below_drewN | apply below_drew1 | refine below_set ?_ (IsS61.ge HI112.out) | refine below_set ?_ GE111.out) | exact HB.out)⟩
    ·replace c23 := Bool.eq_false_iff.mpr c23
     subst c23
     have H1 : ((frac_Right.f kj5 a2_1 a2_2).bind fun t122 => (if t122 = true then (if a2_1 ≤ 0 then (some 2) else (some 0)) else (some 2))) = some r := by rw [if_neg (show ¬ (false = true) by decide)] at H; exact H
     clear H
     have H := H1
     clear H1
     replace H := Option.bind_eq_some_iff.mp H
     obtain ⟨t122, A240, H⟩ := H
     replace H : (if t122 = true then (if a2_1 ≤ 0 then (some 2) else (some 0)) else (some 2)) = some r := H
     have A24 := Aside0.mk A240
     clear A240
     by_cases c25 : t122 = true
     ·subst c25
      have H1 : (if a2_1 ≤ 0 then (some 2) else (some 0)) = some r := by rw [if_pos rfl] at H; exact H
      clear H
      have H := H1
      clear H1
      by_cases c26 : a2_1 ≤ 0
      ·rw [if_pos c26] at H
       have c26b0 : decide (a2_1 ≤ 0) = true := decide_eq_true c26
       clear c26
       obtain rfl := Option.some.inj H
       obtain ⟨HGz27, hgz27⟩ := HI112.out
       have hcz27_0 := cellS61_0 HGz27
       have hcz27_1 := cellS61_1 HGz27
       have hcz27_2 := cellS61_2 HGz27
       have hfz27_0 := blk_frozen HGz27 0
       have hfz27_1 := blk_frozen HGz27 1
       have hfz27_2 := blk_frozen HGz27 2
       clear HGz27 hgz27
       go_wp2_with (first | ((with_reducible refine gate_callee (f := 55) rfl ?_); refine goesL_ (some 28) rfl rfl Try.func55 (by kernel_rfl) rfl #[.agg #[.int .i64 a2_1, .int .i64 a2_2]] rfl (by (try simp only [List.map_toArray, List.map_cons, List.map_nil]); first | done | rfl | (simp only [List.length_drop, List.length_take]; rfl)) ?_; (with_reducible refine (frac_Right.calls kj5 a2_1 a2_2 true _ A24.out).mono ?_); rintro e w28 ⟨rfl, hb⟩; refine ⟨_, rfl, ?_⟩; have n0_ := Aside0.mk (blk_below (g := gb111) (o := .cells #[.string a0_0, .string a0_1, .int .i64 a0_2, .int .i64 a0_3, .slice A0_4 l0_4.length c0_4] 24 (0, 0)) (by (with_reducible repeat (first | refine blk_drewN ?_ _ | refine blk_drew ?_ | refine blk_alloc ?_ _)); exact BK111.out) hb); have n1_ := Aside0.mk (IsS61.below (by repeat (first | (with_reducible first | exact HI112.out | apply IsS61.alloc | apply IsS61.drewN | apply IsS61.drew | apply IsS61.set_0 | apply IsS61.set_1 | apply IsS61.set_2 | refine IsS61.far ?_ NB112_111.out _) | exact HI112.out)) hb); have n2_ := Aside0.mk (below_step (by repeat (first | (with_reducible first | exact HB.out | apply below_alloc | apply pw_below_drewN | apply below_drew1 | refine below_set ?_ (IsS61.ge HI112.out) | refine below_set ?_ GE111.out) | exact HB.out)) hb); clear BK111; clear HI112; clear HB; have BK111 := n0_; have HI112 := n1_; have HB := n2_; clear n0_ n1_ n2_; (try clear hb); (try clear hb2); (try clear hk); (try clear hi); obtain ⟨HGz29, hgz29⟩ := HI112.out; have hcz29_0 := cellS61_0 HGz29; have hcz29_1 := cellS61_1 HGz29; have hcz29_2 := cellS61_2 HGz29; have hfz29_0 := blk_frozen HGz29 0; have hfz29_1 := blk_frozen HGz29 1; have hfz29_2 := blk_frozen HGz29 2; clear HGz29 hgz29))
       go_ret
       exact ⟨by first | rfl | (simp [errW_none, errW_some] <;> rfl) | (simp [*, errW_none, errW_some] <;> rfl), by repeat (first | (with_reducible first | exact HB.out | apply below_alloc | apply pw_below_drewN | apply below_drew1 | refine below_set ?_ (IsS61.ge HI112.out) | refine below_set ?_ GE111.out) | exact HB.out)⟩
      ·rw [if_neg c26] at H
       have c26b0 : decide (a2_1 ≤ 0) = false := decide_eq_false c26
       clear c26
       obtain rfl := Option.some.inj H
       obtain ⟨HGz30, hgz30⟩ := HI112.out
       have hcz30_0 := cellS61_0 HGz30
       have hcz30_1 := cellS61_1 HGz30
       have hcz30_2 := cellS61_2 HGz30
       have hfz30_0 := blk_frozen HGz30 0
       have hfz30_1 := blk_frozen HGz30 1
       have hfz30_2 := blk_frozen HGz30 2
       clear HGz30 hgz30
       go_wp2_with (first | ((with_reducible refine gate_callee (f := 55) rfl ?_); refine goesL_ (some 28) rfl rfl Try.func55 (by kernel_rfl) rfl #[.agg #[.int .i64 a2_1, .int .i64 a2_2]] rfl (by (try simp only [List.map_toArray, List.map_cons, List.map_nil]); first | done | rfl | (simp only [List.length_drop, List.length_take]; rfl)) ?_; (with_reducible refine (frac_Right.calls kj5 a2_1 a2_2 true _ A24.out).mono ?_); rintro e w31 ⟨rfl, hb⟩; refine ⟨_, rfl, ?_⟩; have n0_ := Aside0.mk (blk_below (g := gb111) (o := .cells #[.string a0_0, .string a0_1, .int .i64 a0_2, .int .i64 a0_3, .slice A0_4 l0_4.length c0_4] 24 (0, 0)) (by (with_reducible repeat (first | refine blk_drewN ?_ _ | refine blk_drew ?_ | refine blk_alloc ?_ _)); exact BK111.out) hb); have n1_ := Aside0.mk (IsS61.below (by repeat (first | (with_reducible first | exact HI112.out | apply IsS61.alloc | apply IsS61.drewN | apply IsS61.drew | apply IsS61.set_0 | apply IsS61.set_1 | apply IsS61.set_2 | refine IsS61.far ?_ NB112_111.out _) | exact HI112.out)) hb); have n2_ := Aside0.mk (below_step (by repeat (first | (with_reducible first | exact HB.out | apply below_alloc | apply pw_below_drewN | apply below_drew1 | refine below_set ?_ (IsS61.ge HI112.out) | refine below_set ?_ GE111.out) | exact HB.out)) hb); clear BK111; clear HI112; clear HB; have BK111 := n0_; have HI112 := n1_; have HB := n2_; clear n0_ n1_ n2_; (try clear hb); (try clear hb2); (try clear hk); (try clear hi); obtain ⟨HGz32, hgz32⟩ := HI112.out; have hcz32_0 := cellS61_0 HGz32; have hcz32_1 := cellS61_1 HGz32; have hcz32_2 := cellS61_2 HGz32; have hfz32_0 := blk_frozen HGz32 0; have hfz32_1 := blk_frozen HGz32 1; have hfz32_2 := blk_frozen HGz32 2; clear HGz32 hgz32))
       go_ret
       exact ⟨by first | rfl | (simp [errW_none, errW_some] <;> rfl) | (simp [*, errW_none, errW_some] <;> rfl), by repeat (first | (with_reducible first | exact HB.out | apply below_alloc | apply pw_below_drewN | apply below_drew1 | refine below_set ?_ (IsS61.ge HI112.out) | refine below_set ?_ GE111.out) | exact HB.out)⟩
     ·replace c25 := Bool.eq_false_iff.mpr c25
      subst c25
      have H1 : (some 2) = some r := by rw [if_neg (show ¬ (false = true) by decide)] at H; exact H
      clear H
      have H := H1
      clear H1
      obtain rfl := Option.some.inj H
      obtain ⟨HGz33, hgz33⟩ := HI112.out
      have hcz33_0 := cellS61_0 HGz33
      have hcz33_1 := cellS61_1 HGz33
      have hcz33_2 := cellS61_2 HGz33
      have hfz33_0 := blk_frozen HGz33 0
      have hfz33_1 := blk_frozen HGz33 1
      have hfz33_2 := blk_frozen HGz33 2
      clear HGz33 hgz33
      go_wp2_with (first | ((with_reducible refine gate_callee (f := 55) rfl ?_); refine goesL_ (some 28) rfl rfl Try.func55 (by kernel_rfl) rfl #[.agg #[.int .i64 a2_1, .int .i64 a2_2]] rfl (by (try simp only [List.map_toArray, List.map_cons, List.map_nil]); first | done | rfl | (simp only [List.length_drop, List.length_take]; rfl)) ?_; (with_reducible refine (frac_Right.calls kj5 a2_1 a2_2 false _ A24.out).mono ?_); rintro e w34 ⟨rfl, hb⟩; refine ⟨_, rfl, ?_⟩; have n0_ := Aside0.mk (blk_below (g := gb111) (o := .cells #[.string a0_0, .string a0_1, .int .i64 a0_2, .int .i64 a0_3, .slice A0_4 l0_4.length c0_4] 24 (0, 0)) (by (with_reducible repeat (first | refine blk_drewN ?_ _ | refine blk_drew ?_ | refine blk_alloc ?_ _)); exact BK111.out) hb); have n1_ := Aside0.mk (IsS61.below (by repeat (first | (with_reducible first | exact HI112.out | apply IsS61.alloc | apply IsS61.drewN | apply IsS61.drew | apply IsS61.set_0 | apply IsS61.set_1 | apply IsS61.set_2 | refine IsS61.far ?_ NB112_111.out _) | exact HI112.out)) hb); have n2_ := Aside0.mk (below_step (by repeat (first | (with_reducible first | exact HB.out | apply below_alloc | apply pw_below_drewN | apply below_drew1 | refine below_set ?_ (IsS61.ge HI112.out) | refine below_set ?_ GE111.out) | exact HB.out)) hb); clear BK111; clear HI112; clear HB; have BK111 := n0_; have HI112 := n1_; have HB := n2_; clear n0_ n1_ n2_; (try clear hb); (try clear hb2); (try clear hk); (try clear hi)))
      go_ret
      exact ⟨by first | rfl | (simp [errW_none, errW_some] <;> rfl) | (simp [*, errW_none, errW_some] <;> rfl), by repeat (first | (with_reducible first | exact HB.out | apply below_alloc | apply pw_below_drewN | apply below_drew1 | refine below_set ?_ (IsS61.ge HI112.out) | refine below_set ?_ GE111.out) | exact HB.out)⟩
 ·replace c5 := Bool.eq_false_iff.mpr c5
  subst c5
  have H1 : (some 7) = some r := by rw [if_neg (show ¬ (false = true) by decide)] at H; exact H
  clear H
  have H := H1
  clear H1
  obtain rfl := Option.some.inj H
  go_enter Try.func34, Try.ntmps34
  go_wp2_with (first | ((with_reducible refine gate_dst (N := 3) rfl ?_); refine box_event ?hg (N := 3) ?hd (cs := #[.string a0_0, .string a0_1, .int .i64 a0_2, .int .i64 a0_3, .slice A0_4 l0_4.length c0_4]) (t := 24) ?hr ?_; (case hd => rfl); (case hg => rfl); (case hr => first | (go_simp; done) | (go_simp; rfl)); intro gb111 hg w35 hbox hb; have n0_ := Aside0.mk (below_step (by repeat (first | (with_reducible first | exact HB.out | apply below_alloc | apply pw_below_drewN | apply below_drew1) | exact HB.out)) hb); have n1_ := Aside0.mk (hbox); have n2_ := Aside0.mk ((by rw [hg]; exact (below_size (by repeat (first | (with_reducible first | exact HB.out | apply below_alloc | apply pw_below_drewN | apply below_drew1) | exact HB.out))) : w.heap.size ≤ gb111)); have n3_ := Aside0.mk ((by rw [hg]; exact (below_size (by repeat (first | (with_reducible first | exact HB.out | apply below_alloc | apply pw_below_drewN | apply below_drew1) | exact HB.out))) : w.heap.size ≤ gb111)); clear HB; have HB := n0_; have BK111 := n1_; have GW111 := n2_; have GE111 := n3_; clear n0_ n1_ n2_ n3_; clear hb hbox hg) | ((with_reducible refine gate_dst (N := 5) rfl ?_); refine box_event ?hg (N := 5) ?hd (cs := #[.string a2_0, .int .i64 a2_1, .int .i64 a2_2]) (t := 61) ?hr ?_; (case hd => rfl); (case hg => rfl); (case hr => first | (go_simp; done) | (go_simp; rfl)); intro gb112 hg w36 hbox hb; have n0_ := Aside0.mk (blk_below (g := gb111) (o := .cells #[.string a0_0, .string a0_1, .int .i64 a0_2, .int .i64 a0_3, .slice A0_4 l0_4.length c0_4] 24 (0, 0)) (by (with_reducible repeat (first | refine blk_drewN ?_ _ | refine blk_drew ?_ | refine blk_alloc ?_ _)); exact BK111.out) hb); have n1_ := Aside0.mk (below_step (by repeat (first | (with_reducible first | exact HB.out | apply below_alloc | apply pw_below_drewN | apply below_drew1 | refine below_set ?_ GE111.out) | exact HB.out)) hb); have n2_ := Aside0.mk ((show IsS61 w w36 gb112 a2_0 a2_1 a2_2 from ⟨hbox, (by rw [hg]; exact (below_size (by repeat (first | (with_reducible first | exact HB.out | apply below_alloc | apply pw_below_drewN | apply below_drew1 | refine below_set ?_ GE111.out) | exact HB.out))) : w.heap.size ≤ gb112)⟩)); have n3_ := Aside0.mk ((by rw [hg]; exact (below_size (by repeat (first | (with_reducible first | exact HB.out | apply below_alloc | apply pw_below_drewN | apply below_drew1 | refine below_set ?_ GE111.out) | exact HB.out))) : w.heap.size ≤ gb112)); have n4_ := Aside0.mk ((by rw [hg]; exact (below_size (by repeat (first | (with_reducible first | exact HB.out | apply below_alloc | apply pw_below_drewN | apply below_drew1 | refine below_set ?_ GE111.out) | exact HB.out))) : w.heap.size ≤ gb112)); have n5_ := Aside0.mk ((by rw [hg]; exact Nat.ne_of_lt (blk_lt (g := gb111) (o := .cells #[.string a0_0, .string a0_1, .int .i64 a0_2, .int .i64 a0_3, .slice A0_4 l0_4.length c0_4] 24 (0, 0)) (by (with_reducible repeat (first | refine blk_drewN ?_ _ | refine blk_drew ?_ | refine blk_alloc ?_ _)); exact BK111.out)) : gb111 ≠ gb112)); have n6_ := Aside0.mk ((by rw [hg]; exact Nat.ne_of_gt (blk_lt (g := gb111) (o := .cells #[.string a0_0, .string a0_1, .int .i64 a0_2, .int .i64 a0_3, .slice A0_4 l0_4.length c0_4] 24 (0, 0)) (by (with_reducible repeat (first | refine blk_drewN ?_ _ | refine blk_drew ?_ | refine blk_alloc ?_ _)); exact BK111.out)) : gb112 ≠ gb111)); clear BK111; clear HB; have BK111 := n0_; have HB := n1_; have HI112 := n2_; have GW112 := n3_; have GE112 := n4_; have NB111_112 := n5_; have NB112_111 := n6_; clear n0_ n1_ n2_ n3_ n4_ n5_ n6_; clear hb hbox hg; obtain ⟨HGz37, hgz37⟩ := HI112.out; have hcz37_0 := cellS61_0 HGz37; have hcz37_1 := cellS61_1 HGz37; have hcz37_2 := cellS61_2 HGz37; have hfz37_0 := blk_frozen HGz37 0; have hfz37_1 := blk_frozen HGz37 1; have hfz37_2 := blk_frozen HGz37 2; clear HGz37 hgz37) | ((with_reducible refine gate_callee (f := 33) rfl ?_); refine goesL_ (some 10) rfl rfl Try.func33 (by kernel_rfl) rfl #[.string a2_0] rfl (by (try simp only [List.map_toArray, List.map_cons, List.map_nil]); first | done | rfl | (simp only [List.length_drop, List.length_take]; rfl)) ?_; (with_reducible refine (words_Code.calls k a2_0 false _ A4.out).mono ?_); rintro e w38 ⟨rfl, hb⟩; refine ⟨_, rfl, ?_⟩; have n0_ := Aside0.mk (blk_below (g := gb111) (o := .cells #[.string a0_0, .string a0_1, .int .i64 a0_2, .int .i64 a0_3, .slice A0_4 l0_4.length c0_4] 24 (0, 0)) (by (with_reducible repeat (first | refine blk_drewN ?_ _ | refine blk_drew ?_ | refine blk_alloc ?_ _)); exact BK111.out) hb); have n1_ := Aside0.mk (IsS61.below (by repeat (first | (with_reducible first | exact HI112.out | apply IsS61.alloc | apply IsS61.drewN | apply IsS61.drew | apply IsS61.set_0 | apply IsS61.set_1 | apply IsS61.set_2 | refine IsS61.far ?_ NB112_111.out _) | exact HI112.out)) hb); have n2_ := Aside0.mk (below_step (by repeat (first | (with_reducible first | exact HB.out | apply below_alloc | apply pw_below_drewN | apply below_drew1 | refine below_set ?_ (IsS61.ge HI112.out) | refine below_set ?_ GE111.out) | exact HB.out)) hb); clear BK111; clear HI112; clear HB; have BK111 := n0_; have HI112 := n1_; have HB := n2_; clear n0_ n1_ n2_; (try clear hb); (try clear hb2); (try clear hk); (try clear hi)))
  go_ret
  exact ⟨by first | rfl | (simp [errW_none, errW_some] <;> rfl) | (simp [*, errW_none, errW_some] <;> rfl), by repeat (first | (with_reducible first | exact HB.out | apply below_alloc | apply pw_below_drewN | apply below_drew1 | refine below_set ?_ (IsS61.ge HI112.out) | refine below_set ?_ GE111.out) | exact HB.out)⟩

end Go.Proofs.Ytoppdlideonjjaa.M
end
