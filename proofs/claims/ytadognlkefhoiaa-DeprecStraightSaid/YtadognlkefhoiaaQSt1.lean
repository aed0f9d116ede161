/- Straight-line amounts differ by at most one, for any cost, salvage value and number of periods: under no condition. Part 1 of 1 of what is the claim's own. -/
import Derived.Test.YtadognlkefhoiaaQB2
import Derived.Test.YtadognlkefhoiaaQB8
import Derived.Test.YtadognlkefhoiaaQB9
import Derived.Test.YtadognlkefhoiaaRows
import Derived.WalkKit
import Derived.ProofKit
import Derived.OpenShut
import Derived.ShutString
import Derived.ChangeOld
import Derived.Below
import Derived.SizedLaws
section
-- Written by mprint.py (a program of this session) over the kit's print.
namespace Go.Proofs.Ytadognlkefhoiaa.M
open Go.RowKit Go.Proofs.YtadognlkefhoiaaW.PrintWords Go.Proofs.YtadognlkefhoiaaW.PrintLast Go.Proofs.YtadognlkefhoiaaW.PrintMore
attribute [local go_sem] max2_int min2_int max_two min_two max_three min_three max_four min_four   -- for this text's walks alone
set_option linter.unusedVariables false
set_option linter.unusedSimpArgs false

/-! ### accountinglaw30_DeprecStraight: function 7 -/
def accountinglaw30_DeprecStraight.l0 : Nat → Int → List Int → Int → Option (Bool)
  | 0, _, _, _ => none
  | k + 1, x2, x7, x9 => if x9 < (x7.length : Int) then (if 0 ≤ x9 then (if 0 < (x7.length : Int) then (if (wrap64 ((rd x7 x9) - (rd x7 0))) < (-1) then (none) else (if (wrap64 ((rd x7 x9) - (rd x7 0))) > 1 then (none) else (accountinglaw30_DeprecStraight.l0 k x2 x7 (wrap64 (x9 + 1))))) else (none)) else (none)) else (if (x7.length : Int) = x2 then ((accountinglaw30_lives.f k).bind fun t108 => (some t108)) else (none))
def accountinglaw30_DeprecStraight.f (k : Nat) (a0 : Int) (a1 : Int) (a2 : Int) : Option (Bool) := (deprec_Schedule.f k 1 a0 a1 a2 0 0 ([] : List Int)).bind fun bt101 => (if bt101.2 = 0 then (accountinglaw30_DeprecStraight.l0 k a2 bt101.1 0) else (if (bt101.1.length : Int) = 0 then ((accountinglaw30_lives.f k).bind fun t105 => (some t105)) else (none)))
theorem accountinglaw30_DeprecStraight.mono_l : ∀ k, (∀ y0 y1 y2, LeO (accountinglaw30_DeprecStraight.l0 k y0 y1 y2) (accountinglaw30_DeprecStraight.l0 (k + 1) y0 y1 y2))
  | 0 => fun _ _ _ r h => by simp [accountinglaw30_DeprecStraight.l0] at h
  | k + 1 => by
    have ih0 := accountinglaw30_DeprecStraight.mono_l k
    · intro y0 y1 y2
      unfold accountinglaw30_DeprecStraight.l0
      repeat' first
      | (with_reducible exact ih0 _ _ _)
      | (with_reducible exact accountinglaw30_lives.mono _)
      | (with_reducible exact deprec_Schedule.mono _ _ _ _ _ _ _ _)
      | (with_reducible exact LeO.refl _)
      | (with_reducible exact LeO.none _)
      | (with_reducible refine LeO.ite ?_ ?_)
      | (with_reducible refine LeO.bind ?_ (fun _ => ?_))
      | exact ih0 _ _ _
      | exact accountinglaw30_lives.mono _
      | exact deprec_Schedule.mono _ _ _ _ _ _ _ _
      | exact LeO.none _
      | refine LeO.ite ?_ ?_
      | refine LeO.bind ?_ (fun _ => ?_)
theorem accountinglaw30_DeprecStraight.mono : ∀ a0 a1 a2 k, LeO (accountinglaw30_DeprecStraight.f k a0 a1 a2) (accountinglaw30_DeprecStraight.f (k + 1) a0 a1 a2) := by
 intro a0 a1 a2 k
 have ih0 := accountinglaw30_DeprecStraight.mono_l k
 unfold accountinglaw30_DeprecStraight.f
 repeat' first
   | (with_reducible exact ih0 _ _ _)
   | (with_reducible exact accountinglaw30_lives.mono _)
   | (with_reducible exact deprec_Schedule.mono _ _ _ _ _ _ _ _)
   | (with_reducible exact LeO.refl _)
   | (with_reducible exact LeO.none _)
   | (with_reducible refine LeO.ite ?_ ?_)
   | (with_reducible refine LeO.bind ?_ (fun _ => ?_))
   | exact ih0 _ _ _
   | exact accountinglaw30_lives.mono _
   | exact deprec_Schedule.mono _ _ _ _ _ _ _ _
   | exact LeO.none _
   | refine LeO.ite ?_ ?_
   | refine LeO.bind ?_ (fun _ => ?_)
set_option maxHeartbeats 8000000 in
set_option maxRecDepth 100000 in
theorem accountinglaw30_DeprecStraight.calls (k : Nat) (a0 : Int) (a1 : Int) (a2 : Int) (r : Bool) (w : World) (h : accountinglaw30_DeprecStraight.f k a0 a1 a2 = some r) :
    Calls Try.prog 7 #[.int .i64 a0, .int .i64 a1, .int .i64 a2] w fun e w' => e = .returned (.bool r) ∧ Below w.heap.size w w' := by
 have hu26 := Try.underlying26
 have hu3 := Try.underlying3
 have HB := Aside0.mk (Below.refl w.heap.size w)
 have H : ((deprec_Schedule.f k 1 a0 a1 a2 0 0 ([] : List Int)).bind fun bt101 => (if bt101.2 = 0 then (accountinglaw30_DeprecStraight.l0 k a2 bt101.1 0) else (if (bt101.1.length : Int) = 0 then ((accountinglaw30_lives.f k).bind fun t105 => (some t105)) else (none)))) = some r := h
 clear h
 replace H := Option.bind_eq_some_iff.mp H
 obtain ⟨⟨t101, t104⟩, A40, H⟩ := H
 replace H : (if t104 = 0 then (accountinglaw30_DeprecStraight.l0 k a2 t101 0) else (if (t101.length : Int) = 0 then ((accountinglaw30_lives.f k).bind fun t105 => (some t105)) else (none))) = some r := H
 have A4 := Aside0.mk A40
 clear A40
 by_cases c5 : t104 = 0
 ·rw [if_pos c5] at H
  have c5b0 : (t104 == 0) = true := beq_iff_eq.mpr c5
  have c5b1 : (t104 != 0) = false := bne_eq_false_iff_eq.mpr c5
  clear c5
  have H' := Aside0.mk H
  clear H
  go_enter Try.func7, Try.ntmps7
  go_wp2_with (first | (go_at_call 12; (refine (deprec_Schedule.calls k 1 a0 a1 a2 0 0 _ _ ([] : List Int) t101 t104 _ ?side1 ?side2 A4.out).mono ?_); (case side1 => exact Kd.C_nil _ _); (case side2 => exact Nat.le_refl _); rintro e w6 ⟨v102, rfl, ho0, hb⟩; have n0_ := Aside0.mk (Kd.R_lower ho0 (below_size (by repeat (first | (with_reducible first | exact HB.out | apply below_alloc | apply pw_below_drewN | apply below_drew1) | exact HB.out)))); have n1_ := Aside0.mk (below_step (by repeat (first | (with_reducible first | exact HB.out | apply below_alloc | apply pw_below_drewN | apply below_drew1) | exact HB.out)) hb); clear HB; have HO103 := n0_; have HB := n1_; clear n0_ n1_; (try clear hb); (try clear hb2); (try clear hk); (try clear hi); (try clear ho0)))
  repeat (go_quiet (first | (go_at_call 12; (refine (deprec_Schedule.calls k 1 a0 a1 a2 0 0 _ _ ([] : List Int) t101 t104 _ ?side1 ?side2 A4.out).mono ?_); (case side1 => exact Kd.C_nil _ _); (case side2 => exact Nat.le_refl _); rintro e w6 ⟨v102, rfl, ho0, hb⟩; have n0_ := Aside0.mk (Kd.R_lower ho0 (below_size (by repeat (first | (with_reducible first | exact HB.out | apply below_alloc | apply pw_below_drewN | apply below_drew1) | exact HB.out)))); have n1_ := Aside0.mk (below_step (by repeat (first | (with_reducible first | exact HB.out | apply below_alloc | apply pw_below_drewN | apply below_drew1) | exact HB.out)) hb); clear HB; have HO103 := n0_; have HB := n1_; clear n0_ n1_; (try clear hb); (try clear hb2); (try clear hk); (try clear hi); (try clear ho0))); try go_wp2_with (first | (go_at_call 12; (refine (deprec_Schedule.calls k 1 a0 a1 a2 0 0 _ _ ([] : List Int) t101 t104 _ ?side1 ?side2 A4.out).mono ?_); (case side1 => exact Kd.C_nil _ _); (case side2 => exact Nat.le_refl _); rintro e w6 ⟨v102, rfl, ho0, hb⟩; have n0_ := Aside0.mk (Kd.R_lower ho0 (below_size (by repeat (first | (with_reducible first | exact HB.out | apply below_alloc | apply pw_below_drewN | apply below_drew1) | exact HB.out)))); have n1_ := Aside0.mk (below_step (by repeat (first | (with_reducible first | exact HB.out | apply below_alloc | apply pw_below_drewN | apply below_drew1) | exact HB.out)) hb); clear HB; have HO103 := n0_; have HB := n1_; clear n0_ n1_; (try clear hb); (try clear hb2); (try clear hk); (try clear hi); (try clear ho0))))
  go_loopg [9] k (fun kq v9 w' => ∃ (x9_1 : Int), v9 = .int .i64 x9_1 ∧ Aside0 (accountinglaw30_DeprecStraight.l0 kq a2 t101 x9_1 = some r) ∧ Aside0 (kq ≤ k) ∧ Aside0 (Kd.R (Kd.int .i64) 3 w' w.heap.size (fun _ => True) v102 t101) ∧ Aside0 (Below w.heap.size w w'))
  case atStart => exact ⟨(0), (by first | rfl | (simp; done) | (simp [*]; done)), H', ⟨Nat.le_refl _⟩, ⟨by (with_reducible repeat (first | apply Kd.R_alloc | apply Kd.R_drewN | apply Kd.R_drew)); exact HO103.out⟩, ⟨by repeat (first | (with_reducible first | exact HB.out | apply below_alloc | apply pw_below_drewN | apply below_drew1) | exact HB.out)⟩⟩
  case round =>
   clear H'
   try clear p2
   try clear c5
   try clear c5b0
   try clear c5b1
   obtain ⟨x9_1, rfl, HA, HK1, HO_7, HB⟩ := hrel
   cases gk with
   | zero => exact absurd HA.out (by simp [accountinglaw30_DeprecStraight.l0])
   | succ k1 =>
    have H := HA.out
    clear HA
    simp only [accountinglaw30_DeprecStraight.l0] at H
    by_cases c7 : x9_1 < (t101.length : Int)
    ·rw [if_pos c7] at H
     have c7b0 : decide (x9_1 < (t101.length : Int)) = true := decide_eq_true c7
     clear c7
     by_cases c8 : 0 ≤ x9_1
     ·rw [if_pos c8] at H
      have c8b0 : decide (0 ≤ x9_1) = true := decide_eq_true c8
      clear c8
      by_cases c9 : 0 < (t101.length : Int)
      ·rw [if_pos c9] at H
       have c9b0 : decide (0 < (t101.length : Int)) = true := decide_eq_true c9
       have c9b1 : decide (0 < t101.length) = true := decide_eq_true (by omega)
       clear c9
       by_cases c10 : (wrap64 ((rd t101 x9_1) - (rd t101 0))) < (-1)
       ·rw [if_pos c10] at H
        exact absurd H (by simp)
       ·rw [if_neg c10] at H
        have c10b0 : decide ((wrap64 ((rd t101 x9_1) - (rd t101 0))) < (-1)) = false := decide_eq_false c10
        clear c10
        by_cases c11 : (wrap64 ((rd t101 x9_1) - (rd t101 0))) > 1
        ·rw [if_pos c11] at H
         exact absurd H (by simp)
        ·rw [if_neg c11] at H
         have c11b0 : decide (1 < (wrap64 ((rd t101 x9_1) - (rd t101 0)))) = false := decide_eq_false c11
         clear c11
         have H' := Aside0.mk H
         clear H
         obtain ⟨Ao12, co12, eo12⟩ := Kd.R_slice HO_7.out
         subst eo12
         have p106 : 0 ≤ (x9_1 : Int) := of_decide_eq_true (by first | (with_reducible assumption) | assumption)
         have q106 : x9_1 < (t101.length : Int) := of_decide_eq_true (by first | (with_reducible assumption) | assumption)
         obtain ⟨ad106, e106, hx106_0⟩ := Kd.at_int (Kd.R_reads' HO_7.out).2.2 x9_1 p106 q106
         cases e106
         replace p106 := eq_true p106
         replace q106 := eq_true q106
         have p107 : 0 ≤ (0 : Int) := (by omega)
         have q107 : 0 < (t101.length : Int) := of_decide_eq_true (by first | (with_reducible assumption) | assumption)
         obtain ⟨ad107, e107, hx107_0⟩ := Kd.at_int (Kd.R_reads' HO_7.out).2.2 0 p107 q107
         obtain rfl : ad106 = ad107 := (by injection e107)
         have qi107 : (0 < t101.length) = True := eq_true (by omega)
         (try rw [show ((0 : Int)).toNat = 0 from rfl] at hx107_0)
         (try rw [Addr.add_zero'] at hx107_0)
         replace p107 := eq_true p107
         replace q107 := eq_true q107
         go_wp2
         repeat (go_quiet (fail); try go_wp2)
         go_roundg k1
         case measure => have := HK1.out; omega
         case rel => exact ⟨(wrap64 (x9_1 + 1)), (by first | rfl | (simp; done) | (simp [*]; done)), H', ⟨by have := HK1.out; omega⟩, ⟨by (with_reducible repeat (first | apply Kd.R_alloc | apply Kd.R_drewN | apply Kd.R_drew)); exact HO_7.out⟩, ⟨by repeat (first | (with_reducible first | exact HB.out | apply below_alloc | apply pw_below_drewN | apply below_drew1) | exact HB.out)⟩⟩
      ·rw [if_neg c9] at H
       exact absurd H (by simp)
     ·rw [if_neg c8] at H
      exact absurd H (by simp)
    ·rw [if_neg c7] at H
     have c7b0 : decide (x9_1 < (t101.length : Int)) = false := decide_eq_false c7
     clear c7
     by_cases c13 : (t101.length : Int) = a2
     ·rw [if_pos c13] at H
      have c13b0 : ((t101.length : Int) == a2) = true := beq_iff_eq.mpr c13
      have c13b1 : ((t101.length : Int) != a2) = false := bne_eq_false_iff_eq.mpr c13
      clear c13
      replace H := Option.bind_eq_some_iff.mp H
      obtain ⟨t108, A140, H⟩ := H
      replace H : (some t108) = some r := H
      have A14 := Aside0.mk A140
      clear A140
      obtain rfl := Option.some.inj H
      obtain ⟨Ao15, co15, eo15⟩ := Kd.R_slice HO_7.out
      subst eo15
      go_wp2_with (first | (go_at_call 9; (with_reducible refine (accountinglaw30_lives.calls k1  t108 _ A14.out).mono ?_); rintro e w16 ⟨rfl, hb⟩; have n0_ := Aside0.mk (Kd.R_below (by (with_reducible repeat (first | apply Kd.R_alloc | apply Kd.R_drewN | apply Kd.R_drew)); exact HO_7.out) hb); have n1_ := Aside0.mk (below_step (by repeat (first | (with_reducible first | exact HB.out | apply below_alloc | apply pw_below_drewN | apply below_drew1) | exact HB.out)) hb); clear HO_7; clear HB; have HO_7 := n0_; have HB := n1_; clear n0_ n1_; (try clear hb); (try clear hb2); (try clear hk); (try clear hi)))
      repeat (go_quiet (first | (go_at_call 9; (with_reducible refine (accountinglaw30_lives.calls k1  t108 _ A14.out).mono ?_); rintro e w16 ⟨rfl, hb⟩; have n0_ := Aside0.mk (Kd.R_below (by (with_reducible repeat (first | apply Kd.R_alloc | apply Kd.R_drewN | apply Kd.R_drew)); exact HO_7.out) hb); have n1_ := Aside0.mk (below_step (by repeat (first | (with_reducible first | exact HB.out | apply below_alloc | apply pw_below_drewN | apply below_drew1) | exact HB.out)) hb); clear HO_7; clear HB; have HO_7 := n0_; have HB := n1_; clear n0_ n1_; (try clear hb); (try clear hb2); (try clear hk); (try clear hi))); try go_wp2_with (first | (go_at_call 9; (with_reducible refine (accountinglaw30_lives.calls k1  t108 _ A14.out).mono ?_); rintro e w16 ⟨rfl, hb⟩; have n0_ := Aside0.mk (Kd.R_below (by (with_reducible repeat (first | apply Kd.R_alloc | apply Kd.R_drewN | apply Kd.R_drew)); exact HO_7.out) hb); have n1_ := Aside0.mk (below_step (by repeat (first | (with_reducible first | exact HB.out | apply below_alloc | apply pw_below_drewN | apply below_drew1) | exact HB.out)) hb); clear HO_7; clear HB; have HO_7 := n0_; have HB := n1_; clear n0_ n1_; (try clear hb); (try clear hb2); (try clear hk); (try clear hi))))
      go_ret
      exact ⟨by first | rfl | (simp [errW_none, errW_some] <;> rfl) | (simp [*, errW_none, errW_some] <;> rfl), by repeat (first | (with_reducible first | exact HB.out | apply below_alloc | apply pw_below_drewN | apply below_drew1) | exact HB.out)⟩
     ·rw [if_neg c13] at H
      exact absurd H (by simp)
 ·rw [if_neg c5] at H
  have c5b0 : (t104 == 0) = false := beq_eq_false_iff_ne.mpr c5
  have c5b1 : (t104 != 0) = true := bne_iff_ne.mpr c5
  by_cases c17 : (t101.length : Int) = 0
  ·rw [if_pos c17] at H
   have c17b0 : ((t101.length : Int) == 0) = true := beq_iff_eq.mpr c17
   have c17b1 : ((t101.length : Int) != 0) = false := bne_eq_false_iff_eq.mpr c17
   clear c17
   replace H := Option.bind_eq_some_iff.mp H
   obtain ⟨t105, A180, H⟩ := H
   replace H : (some t105) = some r := H
   have A18 := Aside0.mk A180
   clear A180
   obtain rfl := Option.some.inj H
   go_enter Try.func7, Try.ntmps7
   go_wp2_with (first | (go_at_call 12; (refine (deprec_Schedule.calls k 1 a0 a1 a2 0 0 _ _ ([] : List Int) t101 t104 _ ?side1 ?side2 A4.out).mono ?_); (case side1 => exact Kd.C_nil _ _); (case side2 => exact Nat.le_refl _); rintro e w19 ⟨v102, rfl, ho0, hb⟩; have n0_ := Aside0.mk (Kd.R_lower ho0 (below_size (by repeat (first | (with_reducible first | exact HB.out | apply below_alloc | apply pw_below_drewN | apply below_drew1) | exact HB.out)))); have n1_ := Aside0.mk (below_step (by repeat (first | (with_reducible first | exact HB.out | apply below_alloc | apply pw_below_drewN | apply below_drew1) | exact HB.out)) hb); clear HB; have HO103 := n0_; have HB := n1_; clear n0_ n1_; (try clear hb); (try clear hb2); (try clear hk); (try clear hi); (try clear ho0); obtain ⟨Ao20, co20, eo20⟩ := Kd.R_slice HO103.out; subst eo20) | (go_at_call 9; (with_reducible refine (accountinglaw30_lives.calls k  t105 _ A18.out).mono ?_); rintro e w21 ⟨rfl, hb⟩; have n0_ := Aside0.mk (Kd.R_below (by (with_reducible repeat (first | apply Kd.R_alloc | apply Kd.R_drewN | apply Kd.R_drew)); exact HO103.out) hb); have n1_ := Aside0.mk (below_step (by repeat (first | (with_reducible first | exact HB.out | apply below_alloc | apply pw_below_drewN | apply below_drew1) | exact HB.out)) hb); clear HO103; clear HB; have HO103 := n0_; have HB := n1_; clear n0_ n1_; (try clear hb); (try clear hb2); (try clear hk); (try clear hi)))
   repeat (go_quiet (first | (go_at_call 12; (refine (deprec_Schedule.calls k 1 a0 a1 a2 0 0 _ _ ([] : List Int) t101 t104 _ ?side1 ?side2 A4.out).mono ?_); (case side1 => exact Kd.C_nil _ _); (case side2 => exact Nat.le_refl _); rintro e w19 ⟨v102, rfl, ho0, hb⟩; have n0_ := Aside0.mk (Kd.R_lower ho0 (below_size (by repeat (first | (with_reducible first | exact HB.out | apply below_alloc | apply pw_below_drewN | apply below_drew1) | exact HB.out)))); have n1_ := Aside0.mk (below_step (by repeat (first | (with_reducible first | exact HB.out | apply below_alloc | apply pw_below_drewN | apply below_drew1) | exact HB.out)) hb); clear HB; have HO103 := n0_; have HB := n1_; clear n0_ n1_; (try clear hb); (try clear hb2); (try clear hk); (try clear hi); (try clear ho0); obtain ⟨Ao20, co20, eo20⟩ := Kd.R_slice HO103.out; subst eo20) | (go_at_call 9; (with_reducible refine (accountinglaw30_lives.calls k  t105 _ A18.out).mono ?_); rintro e w21 ⟨rfl, hb⟩; have n0_ := Aside0.mk (Kd.R_below (by (with_reducible repeat (first | apply Kd.R_alloc | apply Kd.R_drewN | apply Kd.R_drew)); exact HO103.out) hb); have n1_ := Aside0.mk (below_step (by repeat (first | (with_reducible first | exact HB.out | apply below_alloc | apply pw_below_drewN | apply below_drew1) | exact HB.out)) hb); clear HO103; clear HB; have HO103 := n0_; have HB := n1_; clear n0_ n1_; (try clear hb); (try clear hb2); (try clear hk); (try clear hi))); try go_wp2_with (first | (go_at_call 12; (refine (deprec_Schedule.calls k 1 a0 a1 a2 0 0 _ _ ([] : List Int) t101 t104 _ ?side1 ?side2 A4.out).mono ?_); (case side1 => exact Kd.C_nil _ _); (case side2 => exact Nat.le_refl _); rintro e w19 ⟨v102, rfl, ho0, hb⟩; have n0_ := Aside0.mk (Kd.R_lower ho0 (below_size (by repeat (first | (with_reducible first | exact HB.out | apply below_alloc | apply pw_below_drewN | apply below_drew1) | exact HB.out)))); have n1_ := Aside0.mk (below_step (by repeat (first | (with_reducible first | exact HB.out | apply below_alloc | apply pw_below_drewN | apply below_drew1) | exact HB.out)) hb); clear HB; have HO103 := n0_; have HB := n1_; clear n0_ n1_; (try clear hb); (try clear hb2); (try clear hk); (try clear hi); (try clear ho0); obtain ⟨Ao20, co20, eo20⟩ := Kd.R_slice HO103.out; subst eo20) | (go_at_call 9; (with_reducible refine (accountinglaw30_lives.calls k  t105 _ A18.out).mono ?_); rintro e w21 ⟨rfl, hb⟩; have n0_ := Aside0.mk (Kd.R_below (by (with_reducible repeat (first | apply Kd.R_alloc | apply Kd.R_drewN | apply Kd.R_drew)); exact HO103.out) hb); have n1_ := Aside0.mk (below_step (by repeat (first | (with_reducible first | exact HB.out | apply below_alloc | apply pw_below_drewN | apply below_drew1) | exact HB.out)) hb); clear HO103; clear HB; have HO103 := n0_; have HB := n1_; clear n0_ n1_; (try clear hb); (try clear hb2); (try clear hk); (try clear hi))))
   go_ret
   exact ⟨by first | rfl | (simp [errW_none, errW_some] <;> rfl) | (simp [*, errW_none, errW_some] <;> rfl), by repeat (first | (with_reducible first | exact HB.out | apply below_alloc | apply pw_below_drewN | apply below_drew1) | exact HB.out)⟩
  ·rw [if_neg c17] at H
   exact absurd H (by simp)

/-- THE ONE PURE STATEMENT of accountinglaw30_DeprecStraight: yours. -/
def accountinglaw30_DeprecStraight.Pure : Prop := ∀ (a0 : Int) (a1 : Int) (a2 : Int), (Lit.int .i64 a0).wf = true → (Lit.int .i64 a1).wf = true → (Lit.int .i64 a2).wf = true → ∃ k, accountinglaw30_DeprecStraight.f k a0 a1 a2 = some true
theorem accountinglaw30_DeprecStraight.walk (P : accountinglaw30_DeprecStraight.Pure) (a0 : Int) (a1 : Int) (a2 : Int) (w : World) (w0 : (Lit.int .i64 a0).wf = true) (w1 : (Lit.int .i64 a1).wf = true) (w2 : (Lit.int .i64 a2).wf = true) :
    Calls Try.prog 7 #[.int .i64 a0, .int .i64 a1, .int .i64 a2] w fun e w' => e = .returned (.bool true) ∧ Below w.heap.size w w' := by
 obtain ⟨k, h⟩ := P a0 a1 a2 w0 w1 w2
 refine (accountinglaw30_DeprecStraight.calls k a0 a1 a2 true w h).mono ?_
 rintro e w' ⟨rfl, hd⟩
 exact ⟨rfl, hd⟩

end Go.Proofs.Ytadognlkefhoiaa.M
end
section
/- Straight-line amounts differ by at most 1: the law holds for every cost, salvage value and number of periods. -/
namespace Go.Proofs.Ytadognlkefhoiaa.M
open Go.RowKit Go.Proofs.YtadognlkefhoiaaW.PrintWords Dv
set_option linter.unusedVariables false
theorem accountinglaw30_DeprecStraight.go (q n : Int) (hq : 0 ≤ q) (hq2 : q ≤ 1000000000000) (L : List Int) (hL : (L.length : Int) = n) (hn : 1 ≤ n ∧ n ≤ 200) (hm : ∀ x ∈ L, q ≤ x ∧ x ≤ q + 1) : ∀ (d : Nat) (i : Int), i + d = n → 0 ≤ i → Ev (fun k => accountinglaw30_DeprecStraight.l0 k n L i) true
  | 0, i, hi, h0 => by
    refine Ev.succ ?_
    have g : ¬ i < (L.length : Int) := by omega
    simp only [accountinglaw30_DeprecStraight.l0, if_neg g, if_pos hL]
    exact Ev.bind accountinglaw30_lives.true (Ev.const _)
  | d + 1, i, hi, h0 => by
    refine Ev.succ ?_
    have g : i < (L.length : Int) := by omega
    have g2 : 0 < (L.length : Int) := by omega
    have b1 := hm _ (rd_mem' L i h0 g)
    have b2 := hm _ (rd_mem' L 0 (by omega) g2)
    have e : wrap64 (rd L i - rd L 0) = rd L i - rd L 0 := w64 (by omega) (by omega)
    have e2 : wrap64 (i + 1) = i + 1 := w64 (by omega) (by omega)
    have g3 : ¬ rd L i - rd L 0 < -1 := by omega
    have g4 : ¬ rd L i - rd L 0 > 1 := by omega
    simp only [accountinglaw30_DeprecStraight.l0, if_pos g, if_pos h0, if_pos g2, e, e2, if_neg g3, if_neg g4]
    exact accountinglaw30_DeprecStraight.go q n hq hq2 L hL hn hm d (i + 1) (by omega) (by omega)
theorem pure_DeprecStraight : accountinglaw30_DeprecStraight.Pure := by
  intro c s n hc hs hn
  refine Ev.out (g := fun k => accountinglaw30_DeprecStraight.f k c s n) ?_
  unfold accountinglaw30_DeprecStraight.f
  refine Ev.bind (deprec_Schedule.eq (by decide) (by decide) (by simp)) ?_
  unfold schv
  by_cases h : chkv 1 c s n 0 0 [] = 0
  · simp only [if_pos h, if_true]
    have K := chkv_ok h
    have hlen := amtv_length K
    obtain ⟨h1, h2, h3, h4, h5, h6⟩ := K
    have hA : amtv 1 c s n 0 0 [] = amts (valS (c - s) n) n.toNat 0 () := by unfold amtv; rw [if_pos rfl]
    have q0 : 0 ≤ (c - s) / n := Int.ediv_nonneg (by omega) (by omega)
    have q1 : (c - s) / n ≤ c - s := Int.ediv_le_self _ (by omega)
    refine accountinglaw30_DeprecStraight.go ((c - s) / n) n q0 (by omega) _ hlen h4 (fun x hx => ?_) n.toNat 0 (by omega) (by omega)
    rw [hA] at hx
    obtain ⟨k, rfl⟩ := amtsS_mem _ _ x hx
    have := evr_step (a := c - s) (k := k) (n := n) (by omega) (by omega)
    exact ⟨this.1, this.2.1⟩
  · simp only [if_neg h]
    simp only [List.length_nil, Int.natCast_zero, if_true]
    exact Ev.bind accountinglaw30_lives.true (Ev.const _)
end Go.Proofs.Ytadognlkefhoiaa.M
namespace Go.Proofs.Ytadognlkefhoiaa.Pure
theorem DeprecStraight : M.accountinglaw30_DeprecStraight.Pure := M.pure_DeprecStraight
end Go.Proofs.Ytadognlkefhoiaa.Pure
end
section
-- Written by mprint.py (a program of this session) over the kit's print.
namespace Go.Proofs.Ytadognlkefhoiaa.deprecStraight
open Go.ChangeShapes Go.WideShapes Go.ChangeAt Go.RowKit
open Go.ChangeMaps (open_string shut_string)
set_option linter.unusedVariables false
theorem own : ownKnob Try.prog.godebug = none := by kernel_rfl
set_option maxRecDepth 100000 in
theorem lifted (os : Os) (started : os.Started) (H : Type) (enc : TypeId × Value → H) :
    ReturnsInHanded {} Try.checked os 7 .any (Rows.deprecStraightSpec.pre6 enc Try.prog Try.f7 Rows.deprecStraightRow.domain false) (Rows.deprecStraightSpec.post enc Try.prog Try.f7 false true false false) := by
  refine returnsInHanded_of_change_sized (C := Try.checked) own started (by kernel_rfl) Try.func7
    (ChangeSpec.witness6 (enc := enc) (C := Try.checked) false ⟨#[], #[.int .i64 0, .int .i64 0, .int .i64 0], []⟩ 8 (by kernel_rfl) (by kernel_rfl) (by kernel_rfl) (by kernel_rfl)) ?_
  intro W base args ds gs before hval0 hW hcnd hsz0 _
  have hsz : (DataW.weightsEach Try.prog (Try.f7.params.toList ++ Rows.deprecStraightSpec.plain.varTypes Try.prog) (ds ++ gs)).all (· ≤ reachBytes) = true := hsz0
  have hval : ∀ (j : Nat) t v, Try.f7.params[j]? = some t → args[j]? = some v → Value.okWide Try.prog W .any base t v := hval0
  have hW' := hW
  obtain ⟨p, q, hA0, hV, rfl, hfz, hnd⟩ := hW
  have hA : DataW.TrodAll enc Try.prog W 0 (fun _ => true) true Try.f7.params.toList args.toList ds p := hA0
  rw [Try.params7] at hA hval hsz
  obtain ⟨v0, vs0, d0, ds0, p0, q0, hargs, rfl, rfl, h0, r0⟩ := trodAll_cons hA
  obtain ⟨v1, vs1, d1, ds1, p1, q1, rfl, rfl, rfl, h1, r1⟩ := trodAll_cons r0
  obtain ⟨v2, vs2, d2, ds2, p2, q2, rfl, rfl, rfl, h2, r2⟩ := trodAll_cons r1
  obtain ⟨rfl, rfl, rfl⟩ := trodAll_nil r2
  obtain rfl : args = #[v0, v1, v2] := by cases args; simp_all
  obtain ⟨rfl, rfl⟩ := trodVars_none hV
  obtain ⟨a0, rfl, rfl, rfl, w0⟩ := open_int Try.underlying3 (hval 0 3 v0 rfl rfl) h0
  obtain ⟨a1, rfl, rfl, rfl, w1⟩ := open_int Try.underlying3 (hval 1 3 v1 rfl rfl) h1
  obtain ⟨a2, rfl, rfl, rfl, w2⟩ := open_int Try.underlying3 (hval 2 3 v2 rfl rfl) h2
  clear hA0 hval0 hsz0 hsz
  refine (M.accountinglaw30_DeprecStraight.walk Pure.DeprecStraight a0 a1 a2 W w0 w1 w2).mono fun e W' ⟨he, bel⟩ => ?_
  subst he
  exact ⟨_, rfl, _, _, _, [], _, [], hW', trodAll_mk1 (shut_bool Try.underlying4 _), (trodAll_cons_mk (shut_int Try.underlying3 w0) (trodAll_cons_mk (shut_int Try.underlying3 w1) (trodAll_cons_mk (shut_int Try.underlying3 w2) trodAll_mk0))), rfl, bel.frame _, fun h => by cases h⟩
theorem over : Rows.deprecStraightRow.holds Try.pinned (OpenSpec.ofChange Rows.deprecStraightSpec) :=
  OpenClaim.holds_of_wide 7 Try.f7 rfl rfl rfl rfl rfl rfl rfl ⟨rfl, rfl, rfl, rfl, rfl⟩ rfl rfl rfl rfl rfl (by kernel_rfl) Try.func7 (by kernel_rfl)
    (of_decide_eq_true (by kernel_rfl)) (by unfold Func.isWrapper; first | (rw [if_pos (by decide +kernel)]; kernel_rfl) | (rw [if_neg (by decide +kernel)]; exact ⟨rfl, rfl⟩))
    (fun os started H enc _ => lifted os started H enc)
theorem proved : Rows.DeprecStraightSaid := over
#print axioms proved
end Go.Proofs.Ytadognlkefhoiaa.deprecStraight
namespace Go.Proofs.Ytadognlkefhoiaa
/-- The row, under a short name, for the claim. -/
theorem deprecStraight_holds : Rows.DeprecStraightSaid := deprecStraight.proved
end Go.Proofs.Ytadognlkefhoiaa
end
