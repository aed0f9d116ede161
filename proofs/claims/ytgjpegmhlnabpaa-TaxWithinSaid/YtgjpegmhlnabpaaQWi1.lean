/- The texts of a claim of chapter 25. Part 1 of 1 of what is the claim's own. -/
import Derived.Test.YtgjpegmhlnabpaaQB1
import Derived.Test.YtgjpegmhlnabpaaQB6
import Derived.SizedLaws
import Derived.ChangeArms
import Derived.ChangeShapes
import Derived.DataReads
import Derived.Test.YtgjpegmhlnabpaaQC3
import Derived.Test.YtgjpegmhlnabpaaQC2
import Derived.Test.YtgjpegmhlnabpaaQR1
import Derived.Test.YtgjpegmhlnabpaaRows
import Derived.WalkKit
import Derived.ProofKit
import Derived.OpenShut
import Derived.ShutString
import Derived.ChangeOld
import Derived.Below
section
-- Written by mprint.py (a program of this session) over the kit's print.
namespace Go.Proofs.Ytgjpegmhlnabpaa.M
open Go.RowKit Go.Proofs.YtgjpegmhlnabpaaW.PrintWords Go.Proofs.YtgjpegmhlnabpaaW.PrintLast Go.Proofs.YtgjpegmhlnabpaaW.PrintMore
attribute [local go_sem] max2_int min2_int max_two min_two max_three min_three max_four min_four   -- for this text's walks alone
set_option linter.unusedVariables false
set_option linter.unusedSimpArgs false
/-! ### accountinglaw25_large: function 17 -/
def accountinglaw25_large.f (l0 : List (S49)) (l1 : List (S59)) : Option (Bool) := if (l0.length : Int) > 250 then (some true) else (if (l1.length : Int) > 250 then (some true) else (some (decide ((wrap64 ((l0.length : Int) * (l1.length : Int))) > 5000))))
set_option maxHeartbeats 8000000 in
set_option maxRecDepth 100000 in
theorem accountinglaw25_large.calls (A0 : Option Addr) (c0 : Nat) (l0 : List (S49)) (A1 : Option Addr) (c1 : Nat) (l1 : List (S59)) (r : Bool) (w : World) (hr0 : Kd.C k49 w A0 l0.length l0) (hc0 : l0.length ≤ c0) (hr1 : Kd.C k59 w A1 l1.length l1) (hc1 : l1.length ≤ c1) (h : accountinglaw25_large.f l0 l1 = some r) :
    Calls Try.prog 17 #[.slice A0 l0.length c0, .slice A1 l1.length c1] w fun e w' => e = .returned (.bool r) ∧ Drawn0 w w' := by
 have HR0 := Aside0.mk hr0
 have HC0 := Aside0.mk hc0
 clear hr0 hc0
 have HR1 := Aside0.mk hr1
 have HC1 := Aside0.mk hc1
 clear hr1 hc1
 have H : (if (l0.length : Int) > 250 then (some true) else (if (l1.length : Int) > 250 then (some true) else (some (decide ((wrap64 ((l0.length : Int) * (l1.length : Int))) > 5000))))) = some r := h
 clear h
 by_cases c3 : (l0.length : Int) > 250
 ·rw [if_pos c3] at H
  have c3b0 : decide (250 < (l0.length : Int)) = true := decide_eq_true c3
  have c3b1 : decide (250 < l0.length) = true := decide_eq_true (by omega)
  clear c3
  obtain rfl := Option.some.inj H
  go_enter Try.func17, Try.ntmps17
  go_wp2
  go_ret
  exact ⟨by first | rfl | (simp; done) | (simp [*]; done), by repeat (first | exact Drawn0.refl _ | apply Drawn0.step)⟩
 ·rw [if_neg c3] at H
  have c3b0 : decide (250 < (l0.length : Int)) = false := decide_eq_false c3
  have c3b1 : decide (250 < l0.length) = false := decide_eq_false (by omega)
  clear c3
  by_cases c4 : (l1.length : Int) > 250
  ·rw [if_pos c4] at H
   have c4b0 : decide (250 < (l1.length : Int)) = true := decide_eq_true c4
   have c4b1 : decide (250 < l1.length) = true := decide_eq_true (by omega)
   clear c4
   obtain rfl := Option.some.inj H
   go_enter Try.func17, Try.ntmps17
   go_wp2
   go_ret
   exact ⟨by first | rfl | (simp; done) | (simp [*]; done), by repeat (first | exact Drawn0.refl _ | apply Drawn0.step)⟩
  ·rw [if_neg c4] at H
   have c4b0 : decide (250 < (l1.length : Int)) = false := decide_eq_false c4
   have c4b1 : decide (250 < l1.length) = false := decide_eq_false (by omega)
   clear c4
   obtain rfl := Option.some.inj H
   go_enter Try.func17, Try.ntmps17
   go_wp2
   go_ret
   exact ⟨by first | rfl | (simp; done) | (simp [*]; done), by repeat (first | exact Drawn0.refl _ | apply Drawn0.step)⟩
end Go.Proofs.Ytgjpegmhlnabpaa.M
end
section
-- Written by mprint.py (a program of this session) over the kit's print.
namespace Go.Proofs.Ytgjpegmhlnabpaa.M
open Go.RowKit Go.Proofs.YtgjpegmhlnabpaaW.PrintWords Go.Proofs.YtgjpegmhlnabpaaW.PrintLast Go.Proofs.YtgjpegmhlnabpaaW.PrintMore
attribute [local go_sem] max2_int min2_int max_two min_two max_three min_three max_four min_four   -- for this text's walks alone
set_option linter.unusedVariables false
set_option linter.unusedSimpArgs false
/-! ### accountinglaw25_TaxWithin: function 8 -/
mutual
def accountinglaw25_TaxWithin.l0 : Nat → List (S49) → List Int → List (S51) → Int → Int → Option (Bool)
  | 0, _, _, _, _, _ => none
  | k + 1, x0, x7, x8, x10, x11 => if x11 < (x0.length : Int) then (if 0 ≤ x11 then (if x11 < (x7.length : Int) then (accountinglaw25_TaxWithin.l0 k x0 x7 x8 (wrap64 ((wrap64 (x10 + ((rd_T49 x0 x11).f0))) - (rd x7 x11))) (wrap64 (x11 + 1))) else (none)) else (none)) else (accountinglaw25_TaxWithin.l1 k x8 x10 0)
def accountinglaw25_TaxWithin.l1 : Nat → List (S51) → Int → Int → Option (Bool)
  | 0, _, _, _ => none
  | k + 1, x8, x10, x12 => if x12 < (x8.length : Int) then (if 0 ≤ x12 then (accountinglaw25_TaxWithin.l1 k x8 (wrap64 (x10 - ((rd_T51 x8 x12).f2))) (wrap64 (x12 + 1))) else (none)) else (if x10 = 0 then ((accountinglaw25_lives.f k).bind fun t113 => (some t113)) else (none))
end
def accountinglaw25_TaxWithin.f (k : Nat) (l0 : List (S49)) (l1 : List (S59)) (a2 : Int) : Option (Bool) := (accountinglaw25_large.f l0 l1).bind fun t101 => (if t101 = true then (some true) else ((tax_Of.f k l0 l1 3 a2).bind fun bt102 => (if bt102.2.2 = 0 then (if (bt102.1.length : Int) = (l0.length : Int) then (accountinglaw25_TaxWithin.l0 k l0 bt102.1 bt102.2.1 0 0) else (none)) else (if (bt102.1.length : Int) = 0 then (if (bt102.2.1.length : Int) = 0 then ((accountinglaw25_lives.f k).bind fun t109 => (some t109)) else (none)) else (none)))))
theorem accountinglaw25_TaxWithin.mono_l : ∀ k, (∀ y0 y1 y2 y3 y4, LeO (accountinglaw25_TaxWithin.l0 k y0 y1 y2 y3 y4) (accountinglaw25_TaxWithin.l0 (k + 1) y0 y1 y2 y3 y4)) ∧ (∀ y0 y1 y2, LeO (accountinglaw25_TaxWithin.l1 k y0 y1 y2) (accountinglaw25_TaxWithin.l1 (k + 1) y0 y1 y2))
  | 0 => ⟨fun _ _ _ _ _ r h => by simp [accountinglaw25_TaxWithin.l0] at h, fun _ _ _ r h => by simp [accountinglaw25_TaxWithin.l1] at h⟩
  | k + 1 => by
    obtain ⟨ih0, ih1⟩ := accountinglaw25_TaxWithin.mono_l k
    refine ⟨?_, ?_⟩
    · intro y0 y1 y2 y3 y4
      unfold accountinglaw25_TaxWithin.l0
      repeat' first
      | (with_reducible exact ih0 _ _ _ _ _)
      | (with_reducible exact ih1 _ _ _)
      | (with_reducible exact accountinglaw25_lives.mono _)
      | (with_reducible exact tax_Of.mono _ _ _ _ _)
      | (with_reducible exact LeO.refl _)
      | (with_reducible exact LeO.none _)
      | (with_reducible refine LeO.ite ?_ ?_)
      | (with_reducible refine LeO.bind ?_ (fun _ => ?_))
      | exact ih0 _ _ _ _ _
      | exact ih1 _ _ _
      | exact accountinglaw25_lives.mono _
      | exact tax_Of.mono _ _ _ _ _
      | exact LeO.none _
      | refine LeO.ite ?_ ?_
      | refine LeO.bind ?_ (fun _ => ?_)
    · intro y0 y1 y2
      unfold accountinglaw25_TaxWithin.l1
      repeat' first
      | (with_reducible exact ih0 _ _ _ _ _)
      | (with_reducible exact ih1 _ _ _)
      | (with_reducible exact accountinglaw25_lives.mono _)
      | (with_reducible exact tax_Of.mono _ _ _ _ _)
      | (with_reducible exact LeO.refl _)
      | (with_reducible exact LeO.none _)
      | (with_reducible refine LeO.ite ?_ ?_)
      | (with_reducible refine LeO.bind ?_ (fun _ => ?_))
      | exact ih0 _ _ _ _ _
      | exact ih1 _ _ _
      | exact accountinglaw25_lives.mono _
      | exact tax_Of.mono _ _ _ _ _
      | exact LeO.none _
      | refine LeO.ite ?_ ?_
      | refine LeO.bind ?_ (fun _ => ?_)
theorem accountinglaw25_TaxWithin.mono : ∀ a0 a1 a2 k, LeO (accountinglaw25_TaxWithin.f k a0 a1 a2) (accountinglaw25_TaxWithin.f (k + 1) a0 a1 a2) := by
 intro a0 a1 a2 k
 obtain ⟨ih0, ih1⟩ := accountinglaw25_TaxWithin.mono_l k
 unfold accountinglaw25_TaxWithin.f
 repeat' first
   | (with_reducible exact ih0 _ _ _ _ _)
   | (with_reducible exact ih1 _ _ _)
   | (with_reducible exact accountinglaw25_lives.mono _)
   | (with_reducible exact tax_Of.mono _ _ _ _ _)
   | (with_reducible exact LeO.refl _)
   | (with_reducible exact LeO.none _)
   | (with_reducible refine LeO.ite ?_ ?_)
   | (with_reducible refine LeO.bind ?_ (fun _ => ?_))
   | exact ih0 _ _ _ _ _
   | exact ih1 _ _ _
   | exact accountinglaw25_lives.mono _
   | exact tax_Of.mono _ _ _ _ _
   | exact LeO.none _
   | refine LeO.ite ?_ ?_
   | refine LeO.bind ?_ (fun _ => ?_)
set_option maxHeartbeats 8000000 in
set_option maxRecDepth 100000 in
theorem accountinglaw25_TaxWithin.calls (k : Nat) (A0 : Option Addr) (c0 : Nat) (l0 : List (S49)) (A1 : Option Addr) (c1 : Nat) (l1 : List (S59)) (a2 : Int) (r : Bool) (w : World) (hr0 : Kd.C k49 w A0 l0.length l0) (hc0 : l0.length ≤ c0) (hr1 : Kd.C k59 w A1 l1.length l1) (hc1 : l1.length ≤ c1) (h : accountinglaw25_TaxWithin.f k l0 l1 a2 = some r) :
    Calls Try.prog 8 #[.slice A0 l0.length c0, .slice A1 l1.length c1, .int .i64 a2] w fun e w' => e = .returned (.bool r) ∧ Below w.heap.size w w' := by
 have hu3 := Try.underlying3
 have HR0 := Aside0.mk hr0
 have HC0 := Aside0.mk hc0
 clear hr0 hc0
 have HR1 := Aside0.mk hr1
 have HC1 := Aside0.mk hc1
 clear hr1 hc1
 have HB := Aside0.mk (Below.refl w.heap.size w)
 have H : ((accountinglaw25_large.f l0 l1).bind fun t101 => (if t101 = true then (some true) else ((tax_Of.f k l0 l1 3 a2).bind fun bt102 => (if bt102.2.2 = 0 then (if (bt102.1.length : Int) = (l0.length : Int) then (accountinglaw25_TaxWithin.l0 k l0 bt102.1 bt102.2.1 0 0) else (none)) else (if (bt102.1.length : Int) = 0 then (if (bt102.2.1.length : Int) = 0 then ((accountinglaw25_lives.f k).bind fun t109 => (some t109)) else (none)) else (none)))))) = some r := h
 clear h
 replace H := Option.bind_eq_some_iff.mp H
 obtain ⟨t101, A40, H⟩ := H
 replace H : (if t101 = true then (some true) else ((tax_Of.f k l0 l1 3 a2).bind fun bt102 => (if bt102.2.2 = 0 then (if (bt102.1.length : Int) = (l0.length : Int) then (accountinglaw25_TaxWithin.l0 k l0 bt102.1 bt102.2.1 0 0) else (none)) else (if (bt102.1.length : Int) = 0 then (if (bt102.2.1.length : Int) = 0 then ((accountinglaw25_lives.f k).bind fun t109 => (some t109)) else (none)) else (none))))) = some r := H
 have A4 := Aside0.mk A40
 clear A40
 by_cases c5 : t101 = true
 ·subst c5
  have H1 : (some true) = some r := by rw [if_pos rfl] at H; exact H
  clear H
  have H := H1
  clear H1
  obtain rfl := Option.some.inj H
  go_enter Try.func8, Try.ntmps8
  go_wp2_with (first | (go_at_call 17; (with_reducible refine (accountinglaw25_large.calls _ _ l0 _ _ l1 true _ ?side1 ?side2 ?side3 ?side4 A4.out).mono ?_); (case side1 => repeat (first | exact HR0.out | (with_reducible refine Kd.C_alloc ?_ _) | (with_reducible refine Kd.C_drewN ?_ _) | (with_reducible refine Kd.C_drew ?_))); (case side2 => exact HC0.out); (case side3 => repeat (first | exact HR1.out | (with_reducible refine Kd.C_alloc ?_ _) | (with_reducible refine Kd.C_drewN ?_ _) | (with_reducible refine Kd.C_drew ?_))); (case side4 => exact HC1.out); rintro e w' ⟨rfl, ⟨nd, rfl⟩⟩; (try first | exact ⟨rfl, _, World.drewN_drewN _ _ _⟩ | exact ⟨rfl, _, Eq.trans (World.drewN_drewN _ _ _) (congrArg (World.drewN _) (Nat.add_assoc _ _ _))⟩)))
  repeat (go_quiet (first | (go_at_call 17; (with_reducible refine (accountinglaw25_large.calls _ _ l0 _ _ l1 true _ ?side1 ?side2 ?side3 ?side4 A4.out).mono ?_); (case side1 => repeat (first | exact HR0.out | (with_reducible refine Kd.C_alloc ?_ _) | (with_reducible refine Kd.C_drewN ?_ _) | (with_reducible refine Kd.C_drew ?_))); (case side2 => exact HC0.out); (case side3 => repeat (first | exact HR1.out | (with_reducible refine Kd.C_alloc ?_ _) | (with_reducible refine Kd.C_drewN ?_ _) | (with_reducible refine Kd.C_drew ?_))); (case side4 => exact HC1.out); rintro e w' ⟨rfl, ⟨nd, rfl⟩⟩; (try first | exact ⟨rfl, _, World.drewN_drewN _ _ _⟩ | exact ⟨rfl, _, Eq.trans (World.drewN_drewN _ _ _) (congrArg (World.drewN _) (Nat.add_assoc _ _ _))⟩))); try go_wp2_with (first | (go_at_call 17; (with_reducible refine (accountinglaw25_large.calls _ _ l0 _ _ l1 true _ ?side1 ?side2 ?side3 ?side4 A4.out).mono ?_); (case side1 => repeat (first | exact HR0.out | (with_reducible refine Kd.C_alloc ?_ _) | (with_reducible refine Kd.C_drewN ?_ _) | (with_reducible refine Kd.C_drew ?_))); (case side2 => exact HC0.out); (case side3 => repeat (first | exact HR1.out | (with_reducible refine Kd.C_alloc ?_ _) | (with_reducible refine Kd.C_drewN ?_ _) | (with_reducible refine Kd.C_drew ?_))); (case side4 => exact HC1.out); rintro e w' ⟨rfl, ⟨nd, rfl⟩⟩; (try first | exact ⟨rfl, _, World.drewN_drewN _ _ _⟩ | exact ⟨rfl, _, Eq.trans (World.drewN_drewN _ _ _) (congrArg (World.drewN _) (Nat.add_assoc _ _ _))⟩))))
  go_ret
  exact ⟨by first | rfl | (simp [errW_none, errW_some] <;> rfl) | (simp [*, errW_none, errW_some] <;> rfl), by repeat (first | (with_reducible first | exact HB.out | apply below_alloc | apply pw_below_drewN | apply below_drew1) | exact HB.out)⟩
 ·replace c5 := Bool.eq_false_iff.mpr c5
  subst c5
  have H1 : ((tax_Of.f k l0 l1 3 a2).bind fun bt102 => (if bt102.2.2 = 0 then (if (bt102.1.length : Int) = (l0.length : Int) then (accountinglaw25_TaxWithin.l0 k l0 bt102.1 bt102.2.1 0 0) else (none)) else (if (bt102.1.length : Int) = 0 then (if (bt102.2.1.length : Int) = 0 then ((accountinglaw25_lives.f k).bind fun t109 => (some t109)) else (none)) else (none)))) = some r := by rw [if_neg (show ¬ (false = true) by decide)] at H; exact H
  clear H
  have H := H1
  clear H1
  replace H := Option.bind_eq_some_iff.mp H
  obtain ⟨⟨t102, t103, t104⟩, A60, H⟩ := H
  replace H : (if t104 = 0 then (if (t102.length : Int) = (l0.length : Int) then (accountinglaw25_TaxWithin.l0 k l0 t102 t103 0 0) else (none)) else (if (t102.length : Int) = 0 then (if (t103.length : Int) = 0 then ((accountinglaw25_lives.f k).bind fun t109 => (some t109)) else (none)) else (none))) = some r := H
  have A6 := Aside0.mk A60
  clear A60
  by_cases c7 : t104 = 0
  ·rw [if_pos c7] at H
   have c7b0 : (t104 == 0) = true := beq_iff_eq.mpr c7
   have c7b1 : (t104 != 0) = false := bne_eq_false_iff_eq.mpr c7
   clear c7
   by_cases c8 : (t102.length : Int) = (l0.length : Int)
   ·rw [if_pos c8] at H
    have c8b0 : ((t102.length : Int) == (l0.length : Int)) = true := beq_iff_eq.mpr c8
    have c8b1 : ((t102.length : Int) != (l0.length : Int)) = false := bne_eq_false_iff_eq.mpr c8
    have c8b2 : (t102.length == l0.length) = true := by first | simpa using c8 | (simp at c8 ⊢; omega)
    clear c8
    have H' := Aside0.mk H
    clear H
    go_enter Try.func8, Try.ntmps8
    go_wp2_with (first | (go_at_call 17; (with_reducible refine (accountinglaw25_large.calls _ _ l0 _ _ l1 false _ ?side1 ?side2 ?side3 ?side4 A4.out).mono ?_); (case side1 => repeat (first | exact HR0.out | (with_reducible refine Kd.C_alloc ?_ _) | (with_reducible refine Kd.C_drewN ?_ _) | (with_reducible refine Kd.C_drew ?_))); (case side2 => exact HC0.out); (case side3 => repeat (first | exact HR1.out | (with_reducible refine Kd.C_alloc ?_ _) | (with_reducible refine Kd.C_drewN ?_ _) | (with_reducible refine Kd.C_drew ?_))); (case side4 => exact HC1.out); rintro e w' ⟨rfl, ⟨nd, rfl⟩⟩; (try first | exact ⟨rfl, _, World.drewN_drewN _ _ _⟩ | exact ⟨rfl, _, Eq.trans (World.drewN_drewN _ _ _) (congrArg (World.drewN _) (Nat.add_assoc _ _ _))⟩)) | (go_at_call 18; (with_reducible refine (tax_Of.calls k _ _ l0 _ _ l1 3 a2 t102 t103 t104 _ ?side1 ?side2 ?side3 ?side4 A6.out).mono ?_); (case side1 => repeat (first | exact HR0.out | (with_reducible refine Kd.C_alloc ?_ _) | (with_reducible refine Kd.C_drewN ?_ _) | (with_reducible refine Kd.C_drew ?_))); (case side2 => exact HC0.out); (case side3 => repeat (first | exact HR1.out | (with_reducible refine Kd.C_alloc ?_ _) | (with_reducible refine Kd.C_drewN ?_ _) | (with_reducible refine Kd.C_drew ?_))); (case side4 => exact HC1.out); rintro e w9 ⟨v105, v107, rfl, ho0, ho1, hb⟩; have n0_ := Aside0.mk (Kd.R_lower ho0 (below_size (by repeat (first | (with_reducible first | exact HB.out | apply below_alloc | apply pw_below_drewN | apply below_drew1) | exact HB.out)))); have n1_ := Aside0.mk (Kd.R_lower ho1 (below_size (by repeat (first | (with_reducible first | exact HB.out | apply below_alloc | apply pw_below_drewN | apply below_drew1) | exact HB.out)))); have n2_ := Aside0.mk (below_step (by repeat (first | (with_reducible first | exact HB.out | apply below_alloc | apply pw_below_drewN | apply below_drew1) | exact HB.out)) hb); clear HB; have HO106 := n0_; have HO108 := n1_; have HB := n2_; clear n0_ n1_ n2_; (try clear hb); (try clear hb2); (try clear hk); (try clear hi); (try clear ho0); (try clear ho1); obtain ⟨Ao10, co10, eo10⟩ := Kd.R_slice HO106.out; subst eo10))
    repeat (go_quiet (first | (go_at_call 17; (with_reducible refine (accountinglaw25_large.calls _ _ l0 _ _ l1 false _ ?side1 ?side2 ?side3 ?side4 A4.out).mono ?_); (case side1 => repeat (first | exact HR0.out | (with_reducible refine Kd.C_alloc ?_ _) | (with_reducible refine Kd.C_drewN ?_ _) | (with_reducible refine Kd.C_drew ?_))); (case side2 => exact HC0.out); (case side3 => repeat (first | exact HR1.out | (with_reducible refine Kd.C_alloc ?_ _) | (with_reducible refine Kd.C_drewN ?_ _) | (with_reducible refine Kd.C_drew ?_))); (case side4 => exact HC1.out); rintro e w' ⟨rfl, ⟨nd, rfl⟩⟩; (try first | exact ⟨rfl, _, World.drewN_drewN _ _ _⟩ | exact ⟨rfl, _, Eq.trans (World.drewN_drewN _ _ _) (congrArg (World.drewN _) (Nat.add_assoc _ _ _))⟩)) | (go_at_call 18; (with_reducible refine (tax_Of.calls k _ _ l0 _ _ l1 3 a2 t102 t103 t104 _ ?side1 ?side2 ?side3 ?side4 A6.out).mono ?_); (case side1 => repeat (first | exact HR0.out | (with_reducible refine Kd.C_alloc ?_ _) | (with_reducible refine Kd.C_drewN ?_ _) | (with_reducible refine Kd.C_drew ?_))); (case side2 => exact HC0.out); (case side3 => repeat (first | exact HR1.out | (with_reducible refine Kd.C_alloc ?_ _) | (with_reducible refine Kd.C_drewN ?_ _) | (with_reducible refine Kd.C_drew ?_))); (case side4 => exact HC1.out); rintro e w9 ⟨v105, v107, rfl, ho0, ho1, hb⟩; have n0_ := Aside0.mk (Kd.R_lower ho0 (below_size (by repeat (first | (with_reducible first | exact HB.out | apply below_alloc | apply pw_below_drewN | apply below_drew1) | exact HB.out)))); have n1_ := Aside0.mk (Kd.R_lower ho1 (below_size (by repeat (first | (with_reducible first | exact HB.out | apply below_alloc | apply pw_below_drewN | apply below_drew1) | exact HB.out)))); have n2_ := Aside0.mk (below_step (by repeat (first | (with_reducible first | exact HB.out | apply below_alloc | apply pw_below_drewN | apply below_drew1) | exact HB.out)) hb); clear HB; have HO106 := n0_; have HO108 := n1_; have HB := n2_; clear n0_ n1_ n2_; (try clear hb); (try clear hb2); (try clear hk); (try clear hi); (try clear ho0); (try clear ho1); obtain ⟨Ao10, co10, eo10⟩ := Kd.R_slice HO106.out; subst eo10)); try go_wp2_with (first | (go_at_call 17; (with_reducible refine (accountinglaw25_large.calls _ _ l0 _ _ l1 false _ ?side1 ?side2 ?side3 ?side4 A4.out).mono ?_); (case side1 => repeat (first | exact HR0.out | (with_reducible refine Kd.C_alloc ?_ _) | (with_reducible refine Kd.C_drewN ?_ _) | (with_reducible refine Kd.C_drew ?_))); (case side2 => exact HC0.out); (case side3 => repeat (first | exact HR1.out | (with_reducible refine Kd.C_alloc ?_ _) | (with_reducible refine Kd.C_drewN ?_ _) | (with_reducible refine Kd.C_drew ?_))); (case side4 => exact HC1.out); rintro e w' ⟨rfl, ⟨nd, rfl⟩⟩; (try first | exact ⟨rfl, _, World.drewN_drewN _ _ _⟩ | exact ⟨rfl, _, Eq.trans (World.drewN_drewN _ _ _) (congrArg (World.drewN _) (Nat.add_assoc _ _ _))⟩)) | (go_at_call 18; (with_reducible refine (tax_Of.calls k _ _ l0 _ _ l1 3 a2 t102 t103 t104 _ ?side1 ?side2 ?side3 ?side4 A6.out).mono ?_); (case side1 => repeat (first | exact HR0.out | (with_reducible refine Kd.C_alloc ?_ _) | (with_reducible refine Kd.C_drewN ?_ _) | (with_reducible refine Kd.C_drew ?_))); (case side2 => exact HC0.out); (case side3 => repeat (first | exact HR1.out | (with_reducible refine Kd.C_alloc ?_ _) | (with_reducible refine Kd.C_drewN ?_ _) | (with_reducible refine Kd.C_drew ?_))); (case side4 => exact HC1.out); rintro e w9 ⟨v105, v107, rfl, ho0, ho1, hb⟩; have n0_ := Aside0.mk (Kd.R_lower ho0 (below_size (by repeat (first | (with_reducible first | exact HB.out | apply below_alloc | apply pw_below_drewN | apply below_drew1) | exact HB.out)))); have n1_ := Aside0.mk (Kd.R_lower ho1 (below_size (by repeat (first | (with_reducible first | exact HB.out | apply below_alloc | apply pw_below_drewN | apply below_drew1) | exact HB.out)))); have n2_ := Aside0.mk (below_step (by repeat (first | (with_reducible first | exact HB.out | apply below_alloc | apply pw_below_drewN | apply below_drew1) | exact HB.out)) hb); clear HB; have HO106 := n0_; have HO108 := n1_; have HB := n2_; clear n0_ n1_ n2_; (try clear hb); (try clear hb2); (try clear hk); (try clear hi); (try clear ho0); (try clear ho1); obtain ⟨Ao10, co10, eo10⟩ := Kd.R_slice HO106.out; subst eo10)))
    go_loopg [10, 11] k (fun kq v10 v11 w' => ∃ (x10_1 : Int) (x11_1 : Int), v10 = .int .i64 x10_1 ∧ v11 = .int .i64 x11_1 ∧ Aside0 (accountinglaw25_TaxWithin.l0 kq l0 t102 t103 x10_1 x11_1 = some r) ∧ Aside0 (kq ≤ k) ∧ Aside0 (Kd.R (Kd.int .i64) 3 w' w.heap.size (fun _ => True) (.slice Ao10 t102.length co10) t102) ∧ Aside0 (Kd.R k51 51 w' w.heap.size (fun _ => True) v107 t103) ∧ Aside0 (Below w.heap.size w w'))
    case atStart => exact ⟨(0), (0), (by first | rfl | (simp; done) | (simp [*]; done)), (by first | rfl | (simp; done) | (simp [*]; done)), H', ⟨Nat.le_refl _⟩, ⟨by (with_reducible repeat (first | apply Kd.R_alloc | apply Kd.R_drewN | apply Kd.R_drew)); exact HO106.out⟩, ⟨by (with_reducible repeat (first | apply Kd.R_alloc | apply Kd.R_drewN | apply Kd.R_drew)); exact HO108.out⟩, ⟨by repeat (first | (with_reducible first | exact HB.out | apply below_alloc | apply pw_below_drewN | apply below_drew1) | exact HB.out)⟩⟩
    case round =>
     clear H'
     try clear c1
     try clear p2
     try clear c5
     try clear c7
     try clear c7b0
     try clear c7b1
     try clear c8
     try clear c8b0
     try clear c8b1
     try clear c8b2
     obtain ⟨x10_1, x11_1, rfl, rfl, HA, HK1, HO_7, HO_8, HB⟩ := hrel
     cases gk with
     | zero => exact absurd HA.out (by simp [accountinglaw25_TaxWithin.l0])
     | succ k1 =>
      have H := HA.out
      clear HA
      simp only [accountinglaw25_TaxWithin.l0] at H
      by_cases c11 : x11_1 < (l0.length : Int)
      ·rw [if_pos c11] at H
       have c11b0 : decide (x11_1 < (l0.length : Int)) = true := decide_eq_true c11
       clear c11
       by_cases c12 : 0 ≤ x11_1
       ·rw [if_pos c12] at H
        have c12b0 : decide (0 ≤ x11_1) = true := decide_eq_true c12
        clear c12
        by_cases c13 : x11_1 < (t102.length : Int)
        ·rw [if_pos c13] at H
         have c13b0 : decide (x11_1 < (t102.length : Int)) = true := decide_eq_true c13
         clear c13
         have H' := Aside0.mk H
         clear H
         have p110 : 0 ≤ (x11_1 : Int) := of_decide_eq_true (by first | (with_reducible assumption) | assumption)
         have q110 : x11_1 < (l0.length : Int) := of_decide_eq_true (by first | (with_reducible assumption) | assumption)
         obtain ⟨ad110, e110, hx110_0, hx110_1⟩ := at_T49 HR0.out x11_1 p110 q110
         cases e110
         replace hx110_0 := (HB.out.cell (World.block_lt_of_cell? w _ hx110_0)).trans hx110_0
         replace hx110_1 := (HB.out.cell (World.block_lt_of_cell? w _ hx110_1)).trans hx110_1
         replace p110 := eq_true p110
         replace q110 := eq_true q110
         have p111 : 0 ≤ (x11_1 : Int) := of_decide_eq_true (by first | (with_reducible assumption) | assumption)
         have q111 : x11_1 < (t102.length : Int) := of_decide_eq_true (by first | (with_reducible assumption) | assumption)
         obtain ⟨ad111, e111, hx111_0⟩ := Kd.at_int (Kd.R_reads' HO_7.out).2.2 x11_1 p111 q111
         cases e111
         replace p111 := eq_true p111
         replace q111 := eq_true q111
         go_wp2
         repeat (go_quiet (fail); try go_wp2)
         go_roundg k1
         case measure => have := HK1.out; omega
         case rel => exact ⟨(wrap64 ((wrap64 (x10_1 + ((rd_T49 l0 x11_1).f0))) - (rd t102 x11_1))), (wrap64 (x11_1 + 1)), (by first | rfl | (simp; done) | (simp [*]; done)), (by first | rfl | (simp; done) | (simp [*]; done)), H', ⟨by have := HK1.out; omega⟩, ⟨by (with_reducible repeat (first | apply Kd.R_alloc | apply Kd.R_drewN | apply Kd.R_drew)); exact HO_7.out⟩, ⟨by (with_reducible repeat (first | apply Kd.R_alloc | apply Kd.R_drewN | apply Kd.R_drew)); exact HO_8.out⟩, ⟨by repeat (first | (with_reducible first | exact HB.out | apply below_alloc | apply pw_below_drewN | apply below_drew1) | exact HB.out)⟩⟩
        ·rw [if_neg c13] at H
         exact absurd H (by simp)
       ·rw [if_neg c12] at H
        exact absurd H (by simp)
      ·rw [if_neg c11] at H
       have c11b0 : decide (x11_1 < (l0.length : Int)) = false := decide_eq_false c11
       clear c11
       have H' := Aside0.mk H
       clear H
       go_wp2
       repeat (go_quiet (fail); try go_wp2)
       go_loopg [10, 12] k1 (fun kq v10 v12 w' => ∃ (x10_2 : Int) (x12_2 : Int), v10 = .int .i64 x10_2 ∧ v12 = .int .i64 x12_2 ∧ Aside0 (accountinglaw25_TaxWithin.l1 kq t103 x10_2 x12_2 = some r) ∧ Aside0 (kq ≤ k1) ∧ Aside0 (Kd.R k51 51 w' w.heap.size (fun _ => True) v107 t103) ∧ Aside0 (Below w.heap.size w w'))
       case atStart => exact ⟨(x10_1), (0), (by first | rfl | (simp; done) | (simp [*]; done)), (by first | rfl | (simp; done) | (simp [*]; done)), H', ⟨Nat.le_refl _⟩, ⟨by (with_reducible repeat (first | apply Kd.R_alloc | apply Kd.R_drewN | apply Kd.R_drew)); exact HO_8.out⟩, ⟨by repeat (first | (with_reducible first | exact HB.out | apply below_alloc | apply pw_below_drewN | apply below_drew1) | exact HB.out)⟩⟩
       case round =>
        clear H'
        try clear c1
        try clear p1
        try clear q1
        try clear hx1
        try clear p2
        try clear c5
        try clear p6
        try clear c7
        try clear c7b0
        try clear c7b1
        try clear c8
        try clear c8b0
        try clear c8b1
        try clear c8b2
        try clear c11
        try clear c11b0
        try clear p11
        try clear q11
        try clear hx11
        try clear c12
        try clear c12b0
        try clear c13
        try clear c13b0
        try clear hx110_0
        try clear hx110_1
        try clear hx111_0
        try clear p110
        try clear p111
        try clear p2
        try clear q110
        try clear q111
        obtain ⟨x10_2, x12_2, rfl, rfl, HA, HK2, HO_8, HB⟩ := hrel
        cases gk with
        | zero => exact absurd HA.out (by simp [accountinglaw25_TaxWithin.l1])
        | succ k2 =>
         have H := HA.out
         clear HA
         simp only [accountinglaw25_TaxWithin.l1] at H
         by_cases c14 : x12_2 < (t103.length : Int)
         ·rw [if_pos c14] at H
          have c14b0 : decide (x12_2 < (t103.length : Int)) = true := decide_eq_true c14
          clear c14
          by_cases c15 : 0 ≤ x12_2
          ·rw [if_pos c15] at H
           have c15b0 : decide (0 ≤ x12_2) = true := decide_eq_true c15
           clear c15
           have H' := Aside0.mk H
           clear H
           obtain ⟨Ao16, co16, eo16⟩ := Kd.R_slice HO_8.out
           subst eo16
           have p112 : 0 ≤ (x12_2 : Int) := of_decide_eq_true (by first | (with_reducible assumption) | assumption)
           have q112 : x12_2 < (t103.length : Int) := of_decide_eq_true (by first | (with_reducible assumption) | assumption)
           obtain ⟨ad112, e112, hx112_0, hx112_1, hx112_2⟩ := at_T51 (Kd.R_reads' HO_8.out).2.2 x12_2 p112 q112
           cases e112
           replace p112 := eq_true p112
           replace q112 := eq_true q112
           go_wp2
           repeat (go_quiet (fail); try go_wp2)
           go_roundg k2
           case measure => have := HK1.out; have := HK2.out; omega
           case rel => exact ⟨(wrap64 (x10_2 - ((rd_T51 t103 x12_2).f2))), (wrap64 (x12_2 + 1)), (by first | rfl | (simp; done) | (simp [*]; done)), (by first | rfl | (simp; done) | (simp [*]; done)), H', ⟨by have := HK1.out; have := HK2.out; omega⟩, ⟨by (with_reducible repeat (first | apply Kd.R_alloc | apply Kd.R_drewN | apply Kd.R_drew)); exact HO_8.out⟩, ⟨by repeat (first | (with_reducible first | exact HB.out | apply below_alloc | apply pw_below_drewN | apply below_drew1) | exact HB.out)⟩⟩
          ·rw [if_neg c15] at H
           exact absurd H (by simp)
         ·rw [if_neg c14] at H
          have c14b0 : decide (x12_2 < (t103.length : Int)) = false := decide_eq_false c14
          clear c14
          by_cases c17 : x10_2 = 0
          ·rw [if_pos c17] at H
           have c17b0 : (x10_2 == 0) = true := beq_iff_eq.mpr c17
           have c17b1 : (x10_2 != 0) = false := bne_eq_false_iff_eq.mpr c17
           clear c17
           replace H := Option.bind_eq_some_iff.mp H
           obtain ⟨t113, A180, H⟩ := H
           replace H : (some t113) = some r := H
           have A18 := Aside0.mk A180
           clear A180
           obtain rfl := Option.some.inj H
           obtain ⟨Ao19, co19, eo19⟩ := Kd.R_slice HO_8.out
           subst eo19
           go_wp2_with (first | (go_at_call 12; (with_reducible refine (accountinglaw25_lives.calls k2  t113 _ A18.out).mono ?_); rintro e w20 ⟨rfl, hb⟩; have n0_ := Aside0.mk (Kd.R_below (by (with_reducible repeat (first | apply Kd.R_alloc | apply Kd.R_drewN | apply Kd.R_drew)); exact HO_8.out) hb); have n1_ := Aside0.mk (below_step (by repeat (first | (with_reducible first | exact HB.out | apply below_alloc | apply pw_below_drewN | apply below_drew1) | exact HB.out)) hb); clear HO_8; clear HB; have HO_8 := n0_; have HB := n1_; clear n0_ n1_; (try clear hb); (try clear hb2); (try clear hk); (try clear hi)))
           repeat (go_quiet (first | (go_at_call 12; (with_reducible refine (accountinglaw25_lives.calls k2  t113 _ A18.out).mono ?_); rintro e w20 ⟨rfl, hb⟩; have n0_ := Aside0.mk (Kd.R_below (by (with_reducible repeat (first | apply Kd.R_alloc | apply Kd.R_drewN | apply Kd.R_drew)); exact HO_8.out) hb); have n1_ := Aside0.mk (below_step (by repeat (first | (with_reducible first | exact HB.out | apply below_alloc | apply pw_below_drewN | apply below_drew1) | exact HB.out)) hb); clear HO_8; clear HB; have HO_8 := n0_; have HB := n1_; clear n0_ n1_; (try clear hb); (try clear hb2); (try clear hk); (try clear hi))); try go_wp2_with (first | (go_at_call 12; (with_reducible refine (accountinglaw25_lives.calls k2  t113 _ A18.out).mono ?_); rintro e w20 ⟨rfl, hb⟩; have n0_ := Aside0.mk (Kd.R_below (by (with_reducible repeat (first | apply Kd.R_alloc | apply Kd.R_drewN | apply Kd.R_drew)); exact HO_8.out) hb); have n1_ := Aside0.mk (below_step (by repeat (first | (with_reducible first | exact HB.out | apply below_alloc | apply pw_below_drewN | apply below_drew1) | exact HB.out)) hb); clear HO_8; clear HB; have HO_8 := n0_; have HB := n1_; clear n0_ n1_; (try clear hb); (try clear hb2); (try clear hk); (try clear hi))))
           go_ret
           exact ⟨by first | rfl | (simp [errW_none, errW_some] <;> rfl) | (simp [*, errW_none, errW_some] <;> rfl), by repeat (first | (with_reducible first | exact HB.out | apply below_alloc | apply pw_below_drewN | apply below_drew1) | exact HB.out)⟩
          ·rw [if_neg c17] at H
           exact absurd H (by simp)
   ·rw [if_neg c8] at H
    exact absurd H (by simp)
  ·rw [if_neg c7] at H
   have c7b0 : (t104 == 0) = false := beq_eq_false_iff_ne.mpr c7
   have c7b1 : (t104 != 0) = true := bne_iff_ne.mpr c7
   by_cases c21 : (t102.length : Int) = 0
   ·rw [if_pos c21] at H
    have c21b0 : ((t102.length : Int) == 0) = true := beq_iff_eq.mpr c21
    have c21b1 : ((t102.length : Int) != 0) = false := bne_eq_false_iff_eq.mpr c21
    clear c21
    by_cases c22 : (t103.length : Int) = 0
    ·rw [if_pos c22] at H
     have c22b0 : ((t103.length : Int) == 0) = true := beq_iff_eq.mpr c22
     have c22b1 : ((t103.length : Int) != 0) = false := bne_eq_false_iff_eq.mpr c22
     clear c22
     replace H := Option.bind_eq_some_iff.mp H
     obtain ⟨t109, A230, H⟩ := H
     replace H : (some t109) = some r := H
     have A23 := Aside0.mk A230
     clear A230
     obtain rfl := Option.some.inj H
     go_enter Try.func8, Try.ntmps8
     go_wp2_with (first | (go_at_call 17; (with_reducible refine (accountinglaw25_large.calls _ _ l0 _ _ l1 false _ ?side1 ?side2 ?side3 ?side4 A4.out).mono ?_); (case side1 => repeat (first | exact HR0.out | (with_reducible refine Kd.C_alloc ?_ _) | (with_reducible refine Kd.C_drewN ?_ _) | (with_reducible refine Kd.C_drew ?_))); (case side2 => exact HC0.out); (case side3 => repeat (first | exact HR1.out | (with_reducible refine Kd.C_alloc ?_ _) | (with_reducible refine Kd.C_drewN ?_ _) | (with_reducible refine Kd.C_drew ?_))); (case side4 => exact HC1.out); rintro e w' ⟨rfl, ⟨nd, rfl⟩⟩; (try first | exact ⟨rfl, _, World.drewN_drewN _ _ _⟩ | exact ⟨rfl, _, Eq.trans (World.drewN_drewN _ _ _) (congrArg (World.drewN _) (Nat.add_assoc _ _ _))⟩)) | (go_at_call 18; (with_reducible refine (tax_Of.calls k _ _ l0 _ _ l1 3 a2 t102 t103 t104 _ ?side1 ?side2 ?side3 ?side4 A6.out).mono ?_); (case side1 => repeat (first | exact HR0.out | (with_reducible refine Kd.C_alloc ?_ _) | (with_reducible refine Kd.C_drewN ?_ _) | (with_reducible refine Kd.C_drew ?_))); (case side2 => exact HC0.out); (case side3 => repeat (first | exact HR1.out | (with_reducible refine Kd.C_alloc ?_ _) | (with_reducible refine Kd.C_drewN ?_ _) | (with_reducible refine Kd.C_drew ?_))); (case side4 => exact HC1.out); rintro e w24 ⟨v105, v107, rfl, ho0, ho1, hb⟩; have n0_ := Aside0.mk (Kd.R_lower ho0 (below_size (by repeat (first | (with_reducible first | exact HB.out | apply below_alloc | apply pw_below_drewN | apply below_drew1) | exact HB.out)))); have n1_ := Aside0.mk (Kd.R_lower ho1 (below_size (by repeat (first | (with_reducible first | exact HB.out | apply below_alloc | apply pw_below_drewN | apply below_drew1) | exact HB.out)))); have n2_ := Aside0.mk (below_step (by repeat (first | (with_reducible first | exact HB.out | apply below_alloc | apply pw_below_drewN | apply below_drew1) | exact HB.out)) hb); clear HB; have HO106 := n0_; have HO108 := n1_; have HB := n2_; clear n0_ n1_ n2_; (try clear hb); (try clear hb2); (try clear hk); (try clear hi); (try clear ho0); (try clear ho1); obtain ⟨Ao25, co25, eo25⟩ := Kd.R_slice HO106.out; subst eo25; obtain ⟨Ao26, co26, eo26⟩ := Kd.R_slice HO108.out; subst eo26) | (go_at_call 12; (with_reducible refine (accountinglaw25_lives.calls k  t109 _ A23.out).mono ?_); rintro e w27 ⟨rfl, hb⟩; have n0_ := Aside0.mk (Kd.R_below (by (with_reducible repeat (first | apply Kd.R_alloc | apply Kd.R_drewN | apply Kd.R_drew)); exact HO106.out) hb); have n1_ := Aside0.mk (Kd.R_below (by (with_reducible repeat (first | apply Kd.R_alloc | apply Kd.R_drewN | apply Kd.R_drew)); exact HO108.out) hb); have n2_ := Aside0.mk (below_step (by repeat (first | (with_reducible first | exact HB.out | apply below_alloc | apply pw_below_drewN | apply below_drew1) | exact HB.out)) hb); clear HO106; clear HO108; clear HB; have HO106 := n0_; have HO108 := n1_; have HB := n2_; clear n0_ n1_ n2_; (try clear hb); (try clear hb2); (try clear hk); (try clear hi)))
     repeat (go_quiet (first | (go_at_call 17; (with_reducible refine (accountinglaw25_large.calls _ _ l0 _ _ l1 false _ ?side1 ?side2 ?side3 ?side4 A4.out).mono ?_); (case side1 => repeat (first | exact HR0.out | (with_reducible refine Kd.C_alloc ?_ _) | (with_reducible refine Kd.C_drewN ?_ _) | (with_reducible refine Kd.C_drew ?_))); (case side2 => exact HC0.out); (case side3 => repeat (first | exact HR1.out | (with_reducible refine Kd.C_alloc ?_ _) | (with_reducible refine Kd.C_drewN ?_ _) | (with_reducible refine Kd.C_drew ?_))); (case side4 => exact HC1.out); rintro e w' ⟨rfl, ⟨nd, rfl⟩⟩; (try first | exact ⟨rfl, _, World.drewN_drewN _ _ _⟩ | exact ⟨rfl, _, Eq.trans (World.drewN_drewN _ _ _) (congrArg (World.drewN _) (Nat.add_assoc _ _ _))⟩)) | (go_at_call 18; (with_reducible refine (tax_Of.calls k _ _ l0 _ _ l1 3 a2 t102 t103 t104 _ ?side1 ?side2 ?side3 ?side4 A6.out).mono ?_); (case side1 => repeat (first | exact HR0.out | (with_reducible refine Kd.C_alloc ?_ _) | (with_reducible refine Kd.C_drewN ?_ _) | (with_reducible refine Kd.C_drew ?_))); (case side2 => exact HC0.out); (case side3 => repeat (first | exact HR1.out | (with_reducible refine Kd.C_alloc ?_ _) | (with_reducible refine Kd.C_drewN ?_ _) | (with_reducible refine Kd.C_drew ?_))); (case side4 => exact HC1.out); rintro e w24 ⟨v105, v107, rfl, ho0, ho1, hb⟩; have n0_ := Aside0.mk (Kd.R_lower ho0 (below_size (by repeat (first | (with_reducible first | exact HB.out | apply below_alloc | apply pw_below_drewN | apply below_drew1) | exact HB.out)))); have n1_ := Aside0.mk (Kd.R_lower ho1 (below_size (by repeat (first | (with_reducible first | exact HB.out | apply below_alloc | apply pw_below_drewN | apply below_drew1) | exact HB.out)))); have n2_ := Aside0.mk (below_step (by repeat (first | (with_reducible first | exact HB.out | apply below_alloc | apply pw_below_drewN | apply below_drew1) | exact HB.out)) hb); clear HB; have HO106 := n0_; have HO108 := n1_; have HB := n2_; clear n0_ n1_ n2_; (try clear hb); (try clear hb2); (try clear hk); (try clear hi); (try clear ho0); (try clear ho1); obtain ⟨Ao25, co25, eo25⟩ := Kd.R_slice HO106.out; subst eo25; obtain ⟨Ao26, co26, eo26⟩ := Kd.R_slice HO108.out; subst eo26) | (go_at_call 12; (with_reducible refine (accountinglaw25_lives.calls k  t109 _ A23.out).mono ?_); rintro e w27 ⟨rfl, hb⟩; have n0_ := Aside0.mk (Kd.R_below (by (with_reducible repeat (first | apply Kd.R_alloc | apply Kd.R_drewN | apply Kd.R_drew)); exact HO106.out) hb); have n1_ := Aside0.mk (Kd.R_below (by (with_reducible repeat (first | apply Kd.R_alloc | apply Kd.R_drewN | apply Kd.R_drew)); exact HO108.out) hb); have n2_ := Aside0.mk (below_step (by repeat (first | (with_reducible first | exact HB.out | apply below_alloc | apply pw_below_drewN | apply below_drew1) | exact HB.out)) hb); clear HO106; clear HO108; clear HB; have HO106 := n0_; have HO108 := n1_; have HB := n2_; clear n0_ n1_ n2_; (try clear hb); (try clear hb2); (try clear hk); (try clear hi))); try go_wp2_with (first | (go_at_call 17; (with_reducible refine (accountinglaw25_large.calls _ _ l0 _ _ l1 false _ ?side1 ?side2 ?side3 ?side4 A4.out).mono ?_); (case side1 => repeat (first | exact HR0.out | (with_reducible refine Kd.C_alloc ?_ _) | (with_reducible refine Kd.C_drewN ?_ _) | (with_reducible refine Kd.C_drew ?_))); (case side2 => exact HC0.out); (case side3 => repeat (first | exact HR1.out | (with_reducible refine Kd.C_alloc ?_ _) | (with_reducible refine Kd.C_drewN ?_ _) | (with_reducible refine Kd.C_drew ?_))); (case side4 => exact HC1.out); rintro e w' ⟨rfl, ⟨nd, rfl⟩⟩; (try first | exact ⟨rfl, _, World.drewN_drewN _ _ _⟩ | exact ⟨rfl, _, Eq.trans (World.drewN_drewN _ _ _) (congrArg (World.drewN _) (Nat.add_assoc _ _ _))⟩)) | (go_at_call 18; (with_reducible refine (tax_Of.calls k _ _ l0 _ _ l1 3 a2 t102 t103 t104 _ ?side1 ?side2 ?side3 ?side4 A6.out).mono ?_); (case side1 => repeat (first | exact HR0.out | (with_reducible refine Kd.C_alloc ?_ _) | (with_reducible refine Kd.C_drewN ?_ _) | (with_reducible refine Kd.C_drew ?_))); (case side2 => exact HC0.out); (case side3 => repeat (first | exact HR1.out | (with_reducible refine Kd.C_alloc ?_ _) | (with_reducible refine Kd.C_drewN ?_ _) | (with_reducible refine Kd.C_drew ?_))); (case side4 => exact HC1.out); rintro e w24 ⟨v105, v107, rfl, ho0, ho1, hb⟩; have n0_ := Aside0.mk (Kd.R_lower ho0 (below_size (by repeat (first | (with_reducible first | exact HB.out | apply below_alloc | apply pw_below_drewN | apply below_drew1) | exact HB.out)))); have n1_ := Aside0.mk (Kd.R_lower ho1 (below_size (by repeat (first | (with_reducible first | exact HB.out | apply below_alloc | apply pw_below_drewN | apply below_drew1) | exact HB.out)))); have n2_ := Aside0.mk (below_step (by repeat (first | (with_reducible first | exact HB.out | apply below_alloc | apply pw_below_drewN | apply below_drew1) | exact HB.out)) hb); clear HB; have HO106 := n0_; have HO108 := n1_; have HB := n2_; clear n0_ n1_ n2_; (try clear hb); (try clear hb2); (try clear hk); (try clear hi); (try clear ho0); (try clear ho1); obtain ⟨Ao25, co25, eo25⟩ := Kd.R_slice HO106.out; subst eo25; obtain ⟨Ao26, co26, eo26⟩ := Kd.R_slice HO108.out; subst eo26) | (go_at_call 12; (with_reducible refine (accountinglaw25_lives.calls k  t109 _ A23.out).mono ?_); rintro e w27 ⟨rfl, hb⟩; have n0_ := Aside0.mk (Kd.R_below (by (with_reducible repeat (first | apply Kd.R_alloc | apply Kd.R_drewN | apply Kd.R_drew)); exact HO106.out) hb); have n1_ := Aside0.mk (Kd.R_below (by (with_reducible repeat (first | apply Kd.R_alloc | apply Kd.R_drewN | apply Kd.R_drew)); exact HO108.out) hb); have n2_ := Aside0.mk (below_step (by repeat (first | (with_reducible first | exact HB.out | apply below_alloc | apply pw_below_drewN | apply below_drew1) | exact HB.out)) hb); clear HO106; clear HO108; clear HB; have HO106 := n0_; have HO108 := n1_; have HB := n2_; clear n0_ n1_ n2_; (try clear hb); (try clear hb2); (try clear hk); (try clear hi))))
     go_ret
     exact ⟨by first | rfl | (simp [errW_none, errW_some] <;> rfl) | (simp [*, errW_none, errW_some] <;> rfl), by repeat (first | (with_reducible first | exact HB.out | apply below_alloc | apply pw_below_drewN | apply below_drew1) | exact HB.out)⟩
    ·rw [if_neg c22] at H
     exact absurd H (by simp)
   ·rw [if_neg c21] at H
    exact absurd H (by simp)
end Go.Proofs.Ytgjpegmhlnabpaa.M
end
section
namespace Go.Proofs.YtgjpegmhlnabpaaW.PrintLast
open Go.RowKit Go.Proofs.YtgjpegmhlnabpaaW.PrintWords
section
variable {P : Program} {α β : Type}
structure Opens (P : Program) (d : Kd α) (t : TypeId) (G : α → Prop) : Prop where
  get : ∀ {H : Type} (enc : TypeId × Value → H) (W : World) (base : Nat) (sp : Nat → Bool) (held : Bool) (fuel : Nat) (cs : List Value) (x : DataW H × List MemPlace), DataW.trod enc P W base sp held fuel t cs = some x → (∀ n ∈ DataW.weights P t x.1, n ≤ reachBytes) → ∃ a : α, d.K W a cs ∧ G a
theorem Opens.imp {d : Kd α} {t : TypeId} {G G' : α → Prop} (h : Opens P d t G) (hg : ∀ a, G a → G' a) : Opens P d t G' :=
  ⟨fun enc W base sp held fuel cs x hx hw => let ⟨a, h1, h2⟩ := h.get enc W base sp held fuel cs x hx hw; ⟨a, h1, hg a h2⟩⟩
theorem Opens.int {t : TypeId} {k : IntKind} (ht : P.underlying t = some (.int k)) : Opens P (Kd.int k) t (fun n => (Lit.int k n).wf = true) :=
  ⟨fun enc W base sp held fuel cs x hx hw => by
    obtain ⟨n, rfl, _, h⟩ := DataW.trod_int ht hx
    exact ⟨n, rfl, h⟩⟩
theorem Opens.bool {t : TypeId} (ht : P.underlying t = some .bool) : Opens P Kd.bool t (fun _ => True) :=
  ⟨fun enc W base sp held fuel cs x hx hw => by
    obtain ⟨n, rfl, _⟩ := DataW.trod_bool ht hx
    exact ⟨n, rfl, trivial⟩⟩
theorem Opens.string {t : TypeId} (ht : P.underlying t = some .string) : Opens P Kd.string t (fun s => s.size ≤ 140737488351232) :=
  ⟨fun enc W base sp held fuel cs x hx hw => by
    obtain ⟨s, rfl, rfl, h⟩ := DataW.trod_string ht hx
    have := hw s.data.toList.length (by simp [DataW.weights])
    rw [Array.length_toList] at this
    exact ⟨s, rfl, this⟩⟩
theorem list_of {Q : Nat → α → Prop} : ∀ n : Nat, (∀ i, i < n → ∃ a, Q i a) → ∃ xs : List α, xs.length = n ∧ ∀ i a, xs[i]? = some a → Q i a
  | 0, _ => ⟨[], rfl, fun i a h => by simp at h⟩
  | n + 1, h => by
    obtain ⟨xs, hl, hx⟩ := list_of n (fun i hi => h i (by omega))
    obtain ⟨a, ha⟩ := h n (by omega)
    refine ⟨xs ++ [a], by simp [hl], fun i b hb => ?_⟩
    by_cases hi : i < n
    · rw [List.getElem?_append_left (by omega)] at hb
      exact hx i b hb
    · have hi2 : i < n + 1 := by have := (List.getElem?_eq_some_iff.1 hb).1; simp [hl] at this; exact this
      obtain rfl : i = n := by omega
      rw [List.getElem?_append_right (by omega), hl] at hb
      simp at hb
      subst hb
      exact ha
theorem Opens.slice {d : Kd α} {t e : TypeId} {G : α → Prop} (ht : P.underlying t = some (.slice e)) (h : Opens P d e G) (hc : P.cellsOf e = d.sz) {b : Nat} (hb : P.bytesOf e = b) : Opens P (Kd.slice e d) t (fun xs => xs.length * b ≤ 140737488351232 ∧ ∀ x ∈ xs, G x) :=
  ⟨fun {H} enc W base sp held fuel cs x hx hw => by
    rcases DataW.trod_slice ht hx with ⟨rfl, rfl⟩ | ⟨a, len, cap, elems, rest, n, rfl, rfl, rfl, hba, hl, hm, hlen, hel, _, _⟩
    · exact ⟨[], ⟨none, 0, rfl, Nat.le_refl _, rfl, by simp, fun h => absurd h (Nat.lt_irrefl 0)⟩, by simp, fun _ h => by simp at h⟩
    · simp only [DataW.weights, ht] at hw
      have hw0 := hw _ (List.mem_cons_self ..)
      have each : ∀ i, i < len → ∃ y : α, (∃ c : List Value, c.length = d.sz ∧ d.K W y c ∧ ∀ j u, c[j]? = some u → W.cell? (a.add (i * d.sz + j)) = some u) ∧ G y := by
        intro i hi
        have h1 := hel i hi
        rw [List.getElem?_eq_getElem (by omega)] at h1
        obtain ⟨c, hcs, h2⟩ := Option.bind_eq_some_iff.1 h1
        obtain ⟨_, hcl, hcc⟩ := World.cells?_some hcs
        obtain ⟨y, hk, hg⟩ := h.get enc W base sp held n c _ h2 (fun m hm => hw m (List.mem_cons_of_mem _ (List.mem_append_left _ (by
          have : ∀ (l : List (DataW H)) (z : DataW H), z ∈ l → ∀ m ∈ DataW.weights P e z, m ∈ DataW.weightsAll P e l := by
            intro l z hz m hm
            induction l with
            | nil => simp at hz
            | cons y l ih =>
              simp only [DataW.weightsAll, List.mem_append]
              rcases List.mem_cons.1 hz with rfl | hz
              · exact .inl hm
              · exact .inr (ih hz)
          exact this _ _ (List.mem_map.2 ⟨_, List.getElem_mem (by omega), rfl⟩) m hm))))
        refine ⟨y, ⟨c, by rw [hcl, hc], hk, fun j u hu => ?_⟩, hg⟩
        have hj : j < c.length := (List.getElem?_eq_some_iff.1 hu).1
        rw [hc] at hcc
        have := hcc j (by omega)
        rw [add_add] at this
        rw [this, hu]
      obtain ⟨ys, hyl, hy⟩ := list_of len each
      refine ⟨ys, ⟨some a, cap, by rw [hyl], by omega, rfl, ?_, fun _ => ⟨a, rfl, fun j p hj => (hy j p hj).1⟩⟩, ?_, fun y hy' => ?_⟩
      · unfold maxLen at hm; omega
      · rw [hyl]
        have h2 : (elems.map (·.1)).length + (rest.map (·.1)).length ≥ len := by simp; omega
        have h3 : len * b ≤ ((elems.map (·.1)).length + (rest.map (·.1)).length) * P.bytesOf e := by rw [hb]; exact Nat.mul_le_mul_right _ h2
        exact Nat.le_trans h3 hw0
      · obtain ⟨j, hj⟩ := List.getElem?_of_mem hy'
        exact (hy j y hj).2⟩
theorem Opens.iso {d : Kd α} {t : TypeId} {G : α → Prop} (h : Opens P d t G) (f : β → α) (g : α → β) (hg : ∀ a, f (g a) = a) : Opens P (Kd.iso d f) t (fun b => G (f b)) :=
  ⟨fun enc W base sp held fuel cs x hx hw => let ⟨a, h1, h2⟩ := h.get enc W base sp held fuel cs x hx hw; ⟨g a, by show d.K W (f (g a)) cs; rw [hg]; exact h1, by rw [hg]; exact h2⟩⟩
structure FOpens (P : Program) (d : Kd α) (fs : List Field) (o : Nat) (G : α → Prop) : Prop where
  get : ∀ {H : Type} (enc : TypeId × Value → H) (W : World) (base : Nat) (sp : Nat → Bool) (held : Bool) (n : Nat) (cs : List Value) (xs : List (DataW H × List MemPlace)), o + d.sz = cs.length → xs.length = fs.length →
    (∀ (i : Nat) (f : Field), fs[i]? = some f → DataW.trod enc P W base sp held n f.type ((cs.drop f.offset).take (P.cellsOf f.type)) = xs[i]?) → (∀ m ∈ DataW.weightsEach P (fs.map (·.type)) (xs.map (·.1)), m ≤ reachBytes) → ∃ a : α, d.K W a (cs.drop o) ∧ G a
theorem FOpens.one {d : Kd α} {f : Field} {o : Nat} {G : α → Prop} (h : Opens P d f.type G) (ho : f.offset = o) (hs : P.cellsOf f.type = d.sz) : FOpens P d [f] o G :=
  ⟨fun enc W base sp held n cs xs hl hx ht hw => by
    obtain ⟨x, rfl⟩ := List.length_eq_one_iff.1 hx
    have h1 := ht 0 f rfl
    rw [ho, hs, List.take_of_length_le (by simp; omega)] at h1
    exact h.get enc W base sp held n _ x h1 (fun m hm => hw m (by simpa [DataW.weightsEach] using hm))⟩
theorem FOpens.cons {d : Kd α} {d2 : Kd β} {f : Field} {fs : List Field} {o : Nat} {G : α → Prop} {G2 : β → Prop} (h : Opens P d f.type G) (ho : f.offset = o) (hs : P.cellsOf f.type = d.sz) (hr : FOpens P d2 fs (o + d.sz) G2) : FOpens P (Kd.pair d d2) (f :: fs) o (fun p => G p.1 ∧ G2 p.2) :=
  ⟨fun enc W base sp held n cs xs hl hx ht hw => by
    cases xs with
    | nil => simp at hx
    | cons x xs =>
      have h1 := ht 0 f rfl
      simp only [List.getElem?_cons_zero] at h1
      rw [ho, hs] at h1
      have e : o + (Kd.pair d d2).sz = o + d.sz + d2.sz := by show o + (d.sz + d2.sz) = _; omega
      obtain ⟨a, ha, hga⟩ := h.get enc W base sp held n _ x h1 (fun m hm => hw m (by simp only [List.map_cons, DataW.weightsEach, List.mem_append]; exact .inl hm))
      obtain ⟨b, hb, hgb⟩ := hr.get enc W base sp held n cs xs (by omega) (by simpa using hx) (fun i f' hf => by simpa using ht (i + 1) f' (by simpa using hf)) (fun m hm => hw m (by simp only [List.map_cons, DataW.weightsEach, List.mem_append]; exact .inr hm))
      refine ⟨(a, b), ⟨_, _, ?_, ha, hb⟩, hga, hgb⟩
      rw [← List.drop_drop, List.take_append_drop]⟩
theorem Opens.struct {d : Kd α} {t : TypeId} {fs : Array Field} {G : α → Prop} (ht : P.underlying t = some (.struct fs)) (hs : P.cellsOf t = d.sz) (h : FOpens P d fs.toList 0 G) : Opens P d t G :=
  ⟨fun enc W base sp held fuel cs x hx hw => by
    obtain ⟨xs, n, rfl, rfl, hl, hxl, hi⟩ := DataW.trod_struct ht hx
    simp only [DataW.weights, ht] at hw
    have := h.get enc W base sp held n cs xs (by omega) (by simpa using hxl) (fun i f hf => hi i f (by simpa using hf)) hw
    simpa using this⟩
theorem weights_at {H : Type} {ts : List TypeId} {ds : List (DataW H)} (h : (DataW.weightsEach P ts ds).all (· ≤ reachBytes) = true) {j : Nat} {t : TypeId} {d : DataW H} (ht : ts[j]? = some t) (hd : ds[j]? = some d) : ∀ n ∈ DataW.weights P t d, n ≤ reachBytes :=
  fun n hn => by simpa using List.all_eq_true.1 h _ (DataW.weights_mem_each ht hd n hn)
end
end Go.Proofs.YtgjpegmhlnabpaaW.PrintLast
end
section
-- Written by mprint.py (a program of this session) over the kit's print.
namespace Go.Proofs.Ytgjpegmhlnabpaa.M
open Go.RowKit Go.Proofs.YtgjpegmhlnabpaaW.PrintWords Go.Proofs.YtgjpegmhlnabpaaW.PrintLast Go.Proofs.YtgjpegmhlnabpaaW.PrintMore
attribute [local go_sem] max2_int min2_int max_two min_two max_three min_three max_four min_four   -- for this text's walks alone
set_option linter.unusedVariables false
set_option linter.unusedSimpArgs false
def G23 (x_ : S23) : Prop := ((Lit.int .i64 x_.f0).wf = true) ∧ ((Lit.int .i64 x_.f1).wf = true)
theorem opens23 : Opens Try.prog k23 23 G23 :=
  Opens.imp (Opens.iso (Opens.struct Try.underlying23 (by kernel_rfl) (FOpens.cons (Opens.int Try.underlying3) rfl (by kernel_rfl) (FOpens.one (Opens.int Try.underlying3) rfl (by kernel_rfl)))) (fun x : S23 => (x.f0, x.f1)) (fun p => (⟨p.1, p.2⟩ : S23)) (fun _ => rfl)) (fun _ h => h)
def G59 (x_ : S59) : Prop := (x_.f0.size ≤ 140737488351232) ∧ ((x_.f1.size ≤ 140737488351232) ∧ (G23 x_.f2))
theorem opens59 : Opens Try.prog k59 59 G59 :=
  Opens.imp (Opens.iso (Opens.struct Try.underlying59 (by kernel_rfl) (FOpens.cons (Opens.string Try.underlying9) rfl (by kernel_rfl) (FOpens.cons (Opens.string Try.underlying9) rfl (by kernel_rfl) (FOpens.one opens23 rfl (by kernel_rfl))))) (fun x : S59 => (x.f0, x.f1, x.f2)) (fun p => (⟨p.1, p.2.1, p.2.2⟩ : S59)) (fun _ => rfl)) (fun _ h => h)
def G49 (x_ : S49) : Prop := ((Lit.int .i64 x_.f0).wf = true) ∧ (x_.f1.size ≤ 140737488351232)
theorem opens49 : Opens Try.prog k49 49 G49 :=
  Opens.imp (Opens.iso (Opens.struct Try.underlying49 (by kernel_rfl) (FOpens.cons (Opens.int Try.underlying3) rfl (by kernel_rfl) (FOpens.one (Opens.string Try.underlying9) rfl (by kernel_rfl)))) (fun x : S49 => (x.f0, x.f1)) (fun p => (⟨p.1, p.2⟩ : S49)) (fun _ => rfl)) (fun _ h => h)
end Go.Proofs.Ytgjpegmhlnabpaa.M
end
section
-- Written by mprint.py (a program of this session) over the kit's print.
namespace Go.Proofs.Ytgjpegmhlnabpaa.M
open Go.RowKit Go.Proofs.YtgjpegmhlnabpaaW.PrintWords Go.Proofs.YtgjpegmhlnabpaaW.PrintLast Go.Proofs.YtgjpegmhlnabpaaW.PrintMore
attribute [local go_sem] max2_int min2_int max_two min_two max_three min_three max_four min_four   -- for this text's walks alone
set_option linter.unusedVariables false
set_option linter.unusedSimpArgs false
def accountinglaw25_TaxWithin.Pure : Prop := ∀ (x0 : List (S49)) (x1 : List (S59)) (x2 : Int), (x0.length * 24 ≤ 140737488351232 ∧ ∀ y0_ ∈ x0, G49 y0_) → (x1.length * 48 ≤ 140737488351232 ∧ ∀ y0_ ∈ x1, G59 y0_) → ((Lit.int .i64 x2).wf = true) → ∃ k, accountinglaw25_TaxWithin.f k x0 x1 x2 = some true
end Go.Proofs.Ytgjpegmhlnabpaa.M
end
section
-- Written by mprint.py (a program of this session) over the kit's print.
namespace Go.Proofs.Ytgjpegmhlnabpaa.M
open Go.RowKit Go.Proofs.YtgjpegmhlnabpaaW.PrintWords Go.Proofs.YtgjpegmhlnabpaaW.PrintLast Go.Proofs.YtgjpegmhlnabpaaW.PrintMore
attribute [local go_sem] max2_int min2_int max_two min_two max_three min_three max_four min_four   -- for this text's walks alone
set_option linter.unusedVariables false
set_option linter.unusedSimpArgs false
/-! ### accountingref25_find: function 63 -/
def accountingref25_find.l0 : Nat → List (S59) → ByteArray → Int → Option (Int)
  | 0, _, _, _ => none
  | k + 1, x0, x1, x5 => if x5 < (x0.length : Int) then (if 0 ≤ x5 then (if ((rd_T59 x0 x5).f0).toList = x1.toList then (some x5) else (accountingref25_find.l0 k x0 x1 (wrap64 (x5 + 1)))) else (none)) else (some (-1))
def accountingref25_find.f (k : Nat) (l0 : List (S59)) (a1 : ByteArray) : Option (Int) := accountingref25_find.l0 k l0 a1 0
theorem accountingref25_find.mono_l : ∀ k, (∀ y0 y1 y2, LeO (accountingref25_find.l0 k y0 y1 y2) (accountingref25_find.l0 (k + 1) y0 y1 y2))
  | 0 => fun _ _ _ r h => by simp [accountingref25_find.l0] at h
  | k + 1 => by
    have ih0 := accountingref25_find.mono_l k
    · intro y0 y1 y2
      unfold accountingref25_find.l0
      repeat' first
      | (with_reducible exact ih0 _ _ _)
      | (with_reducible exact LeO.refl _)
      | (with_reducible exact LeO.none _)
      | (with_reducible refine LeO.ite ?_ ?_)
      | (with_reducible refine LeO.bind ?_ (fun _ => ?_))
      | exact ih0 _ _ _
      | exact LeO.none _
      | refine LeO.ite ?_ ?_
      | refine LeO.bind ?_ (fun _ => ?_)
theorem accountingref25_find.mono : ∀ a0 a1 k, LeO (accountingref25_find.f k a0 a1) (accountingref25_find.f (k + 1) a0 a1) := by
 intro a0 a1 k
 have ih0 := accountingref25_find.mono_l k
 unfold accountingref25_find.f
 repeat' first
   | (with_reducible exact ih0 _ _ _)
   | (with_reducible exact LeO.refl _)
   | (with_reducible exact LeO.none _)
   | (with_reducible refine LeO.ite ?_ ?_)
   | (with_reducible refine LeO.bind ?_ (fun _ => ?_))
   | exact ih0 _ _ _
   | exact LeO.none _
   | refine LeO.ite ?_ ?_
   | refine LeO.bind ?_ (fun _ => ?_)
set_option maxHeartbeats 8000000 in
set_option maxRecDepth 100000 in
theorem accountingref25_find.calls (k : Nat) (A0 : Option Addr) (c0 : Nat) (l0 : List (S59)) (a1 : ByteArray) (r : Int) (w : World) (hr0 : Kd.C k59 w A0 l0.length l0) (hc0 : l0.length ≤ c0) (h : accountingref25_find.f k l0 a1 = some r) :
    Calls Try.prog 63 #[.slice A0 l0.length c0, .string a1] w fun e w' => e = .returned (.int .i64 r) ∧ Drawn0 w w' := by
 have hu9 := Try.underlying9
 have HR0 := Aside0.mk hr0
 have HC0 := Aside0.mk hc0
 clear hr0 hc0
 have H : (accountingref25_find.l0 k l0 a1 0) = some r := h
 clear h
 have H' := Aside0.mk H
 clear H
 go_enter Try.func63, Try.ntmps63
 go_wp2
 go_loopg [5] k (fun kq v5 w' => ∃ (x5_1 : Int), v5 = .int .i64 x5_1 ∧ Aside0 (accountingref25_find.l0 kq l0 a1 x5_1 = some r) ∧ Aside0 (kq ≤ k) ∧ Drawn0 w w')
 case atStart => exact ⟨(0), (by first | rfl | (simp; done) | (simp [*]; done)), H', ⟨Nat.le_refl _⟩, by repeat (first | exact Drawn0.refl _ | apply Drawn0.step)⟩
 case round =>
  clear H'
  try clear p2
  obtain ⟨x5_1, rfl, HA, HK1, ⟨m1, rfl⟩⟩ := hrel
  cases gk with
  | zero => exact absurd HA.out (by simp [accountingref25_find.l0])
  | succ k1 =>
   have H := HA.out
   clear HA
   simp only [accountingref25_find.l0] at H
   by_cases c3 : x5_1 < (l0.length : Int)
   ·rw [if_pos c3] at H
    have c3b0 : decide (x5_1 < (l0.length : Int)) = true := decide_eq_true c3
    clear c3
    by_cases c4 : 0 ≤ x5_1
    ·rw [if_pos c4] at H
     have c4b0 : decide (0 ≤ x5_1) = true := decide_eq_true c4
     clear c4
     by_cases c5 : ((rd_T59 l0 x5_1).f0).toList = a1.toList
     ·rw [if_pos c5] at H
      have c5b0 : (((rd_T59 l0 x5_1).f0).toList == a1.toList) = true := beq_iff_eq.mpr c5
      have c5b1 : (((rd_T59 l0 x5_1).f0).toList != a1.toList) = false := bne_eq_false_iff_eq.mpr c5
      clear c5
      obtain rfl := Option.some.inj H
      have p101 : 0 ≤ (x5_1 : Int) := of_decide_eq_true (by first | (with_reducible assumption) | assumption)
      have q101 : x5_1 < (l0.length : Int) := of_decide_eq_true (by first | (with_reducible assumption) | assumption)
      obtain ⟨ad101, e101, hx101_0, hx101_1, hx101_2, hx101_3⟩ := at_T59 HR0.out x5_1 p101 q101
      cases e101
      replace p101 := eq_true p101
      replace q101 := eq_true q101
      go_wp2
      go_ret
      exact ⟨by first | rfl | (simp; done) | (simp [*]; done), by repeat (first | exact Drawn0.refl _ | apply Drawn0.step)⟩
     ·rw [if_neg c5] at H
      have c5b0 : (((rd_T59 l0 x5_1).f0).toList == a1.toList) = false := beq_eq_false_iff_ne.mpr c5
      have c5b1 : (((rd_T59 l0 x5_1).f0).toList != a1.toList) = true := bne_iff_ne.mpr c5
      have H' := Aside0.mk H
      clear H
      have p101 : 0 ≤ (x5_1 : Int) := of_decide_eq_true (by first | (with_reducible assumption) | assumption)
      have q101 : x5_1 < (l0.length : Int) := of_decide_eq_true (by first | (with_reducible assumption) | assumption)
      obtain ⟨ad101, e101, hx101_0, hx101_1, hx101_2, hx101_3⟩ := at_T59 HR0.out x5_1 p101 q101
      cases e101
      replace p101 := eq_true p101
      replace q101 := eq_true q101
      go_wp2
      go_roundg k1
      case measure => have := HK1.out; omega
      case rel => exact ⟨(wrap64 (x5_1 + 1)), (by first | rfl | (simp; done) | (simp [*]; done)), H', ⟨by have := HK1.out; omega⟩, by repeat (first | exact Drawn0.refl _ | apply Drawn0.step)⟩
    ·rw [if_neg c4] at H
     exact absurd H (by simp)
   ·rw [if_neg c3] at H
    have c3b0 : decide (x5_1 < (l0.length : Int)) = false := decide_eq_false c3
    clear c3
    obtain rfl := Option.some.inj H
    go_wp2
    go_ret
    exact ⟨by first | rfl | (simp; done) | (simp [*]; done), by repeat (first | exact Drawn0.refl _ | apply Drawn0.step)⟩
end Go.Proofs.Ytgjpegmhlnabpaa.M
end
section
namespace Go.Proofs.Ytgjpegmhlnabpaa.M
open Go.RowKit Go.Proofs.YtgjpegmhlnabpaaW.PrintWords Dv
set_option linter.unusedVariables false
set_option linter.unusedSimpArgs false
theorem bl_lt : ∀ x y : List UInt8, Op.bytesLess x y = decide (x < y)
  | _, [] => by simp [Op.bytesLess]
  | [], _ :: _ => by simp [Op.bytesLess]
  | a :: x, b :: y => by
    rw [Op.bytesLess, bl_lt x y]
    by_cases h : a < b
    · simp [h, List.cons_lt_cons_iff]
    · by_cases e : a = b
      · subst e; simp [List.cons_lt_cons_iff]
      · simp [h, e, List.cons_lt_cons_iff]
theorem toList_inj {a b : ByteArray} : a.toList = b.toList ↔ a = b := by
  rw [ByteArray.toList_eq, ByteArray.toList_eq]
  constructor
  · intro h
    exact ByteArray.ext (Array.toList_inj.1 h)
  · rintro rfl; rfl
theorem cdv_at (l : List TC) : ∀ n i, i + n = l.length → cdv l n i = true → ∀ j : Nat, i ≤ j → j < l.length → codev (rdC l (j : Int)).f0 = true ∧ ratev (rdC l (j : Int)).f2.f0 (rdC l (j : Int)).f2.f1 = true ∧ (0 < j → (rdC l ((j : Int) - 1)).f0.toList < (rdC l (j : Int)).f0.toList)
  | 0, i, h, hc, j, h1, h2 => by omega
  | n + 1, i, h, hc, j, h1, h2 => by
    unfold cdv at hc
    simp only [Bool.and_eq_true, Bool.or_eq_true, decide_eq_true_eq, bl_lt] at hc
    obtain ⟨a1, a2, a3, a4, a5⟩ := hc
    by_cases e : j = i
    · subst e
      exact ⟨a1, a3, fun hp => by rcases a4 with a4 | a4; omega; exact a4⟩
    · exact cdv_at l n (i + 1) (by omega) a5 j (by omega) h2
structure CodesOk (l : List TC) : Prop where
  len : l.length ≤ 200
  ok : TCok l
  one : ∀ j : Nat, j < l.length → codev (rdC l (j : Int)).f0 = true ∧ ratev (rdC l (j : Int)).f2.f0 (rdC l (j : Int)).f2.f1 = true
  next : ∀ j : Nat, 0 < j → j < l.length → (rdC l ((j : Int) - 1)).f0.toList < (rdC l (j : Int)).f0.toList
theorem codesOk {l : List TC} (ho : TCok l) (h : codesv l = true) : CodesOk l := by
  unfold codesv at h
  simp only [Bool.and_eq_true, decide_eq_true_eq] at h
  have H := cdv_at l l.length 0 (by omega) h.2
  exact ⟨by omega, ho, fun j hj => ⟨(H j (by omega) hj).1, (H j (by omega) hj).2.1⟩, fun j h0 hj => (H j (by omega) hj).2.2 h0⟩
theorem CodesOk.lt {l : List TC} (h : CodesOk l) : ∀ d i : Nat, i + d + 1 < l.length → (rdC l (i : Int)).f0.toList < (rdC l ((i + d + 1 : Nat) : Int)).f0.toList
  | 0, i, hi => by
    have := h.next (i + 1) (by omega) hi
    rw [show ((i + 1 : Nat) : Int) - 1 = (i : Int) by omega] at this
    exact this
  | d + 1, i, hi => by
    have h1 := CodesOk.lt h d i (by omega)
    have h2 := h.next (i + (d + 1) + 1) (by omega) hi
    rw [show ((i + (d + 1) + 1 : Nat) : Int) - 1 = ((i + d + 1 : Nat) : Int) by omega] at h2
    exact List.lt_trans h1 h2
theorem CodesOk.lt' {l : List TC} (h : CodesOk l) {c d : Int} (h0 : 0 ≤ c) (h1 : c < d) (h2 : d < (l.length : Int)) : (rdC l c).f0.toList < (rdC l d).f0.toList := by
  have := h.lt (d - c - 1).toNat c.toNat (by omega)
  rw [show ((c.toNat : Nat) : Int) = c by omega, show ((c.toNat + (d - c - 1).toNat + 1 : Nat) : Int) = d by omega] at this
  exact this
theorem code_out {l : List TC} (h : CodesOk l) (m : ByteArray) : ∃ t : Int, 0 ≤ t ∧ t ≤ (l.length : Int) ∧ (∀ c, 0 ≤ c → c < t → (rdC l c).f0.toList < m.toList) ∧ (∀ c, t ≤ c → c < (l.length : Int) → ¬ (rdC l c).f0.toList < m.toList) ∧
    ∀ r, Ev (fun k => if t < (l.length : Int) then (if 0 ≤ t then ((tax_code_1.f (rdC l t).f0 (rdC l t).f1 (rdC l t).f2.f0 (rdC l t).f2.f1).bind fun t105 => (if t105.toList = m.toList then (some ((rdC l t).f0, (rdC l t).f1, (rdC l t).f2.f0, (rdC l t).f2.f1, true)) else (some ((⟨#[]⟩ : ByteArray), (⟨#[]⟩ : ByteArray), (0 : Int), (0 : Int), false)))) else none) else (some ((⟨#[]⟩ : ByteArray), (⟨#[]⟩ : ByteArray), (0 : Int), (0 : Int), false))) r → Ev (fun k => api_TaxCode__tax_code_1.l0 k l m 0 (l.length : Int) (⟨#[]⟩ : ByteArray) (⟨#[]⟩ : ByteArray) 0 0) r := by
  have hl := h.len
  refine bsearch (fun i j k => api_TaxCode__tax_code_1.l0 k l m i j (⟨#[]⟩ : ByteArray) (⟨#[]⟩ : ByteArray) 0 0)
    (fun t k => if t < (l.length : Int) then (if 0 ≤ t then ((tax_code_1.f (rdC l t).f0 (rdC l t).f1 (rdC l t).f2.f0 (rdC l t).f2.f1).bind fun t105 => (if t105.toList = m.toList then (some ((rdC l t).f0, (rdC l t).f1, (rdC l t).f2.f0, (rdC l t).f2.f1, true)) else (some ((⟨#[]⟩ : ByteArray), (⟨#[]⟩ : ByteArray), (0 : Int), (0 : Int), false)))) else none) else (some ((⟨#[]⟩ : ByteArray), (⟨#[]⟩ : ByteArray), (0 : Int), (0 : Int), false)))
    (fun c => (rdC l c).f0.toList < m.toList) 0 (l.length : Int) ?_ ?_ ?_ ?_ l.length 0 (l.length : Int) (by omega) (by omega) (by omega) (by omega) (fun c _ _ => by omega) (fun c _ _ => by omega)
  · intro i j r h0 h1 h2 hq hr
    refine Ev.succ ?_
    have e1 : wrap64 (i + j) = i + j := w64 (by omega) (by omega)
    have e2 : Int.tdiv (i + j) 2 = (i + j) / 2 := Int.tdiv_eq_ediv_of_nonneg (by omega)
    have e3 : wrap64 ((i + j) / 2) = (i + j) / 2 := w64 (by omega) (by omega)
    have e4 : wrap64 ((i + j) / 2 + 1) = (i + j) / 2 + 1 := w64 (by omega) (by omega)
    have hb : Op.bytesLess (rdC l ((i + j) / 2)).f0.toList m.toList = true := by rw [bl_lt]; exact decide_eq_true hq
    simp only [api_TaxCode__tax_code_1.l0, e1, e2, e3, e4, if_pos h1, if_pos (show 0 ≤ (i + j) / 2 by omega), if_pos (show (i + j) / 2 < (l.length : Int) by omega), tax_code_1.f, Option.bind_some, if_pos hb]
    exact hr
  · intro i j r h0 h1 h2 hq hr
    refine Ev.succ ?_
    have e1 : wrap64 (i + j) = i + j := w64 (by omega) (by omega)
    have e2 : Int.tdiv (i + j) 2 = (i + j) / 2 := Int.tdiv_eq_ediv_of_nonneg (by omega)
    have e3 : wrap64 ((i + j) / 2) = (i + j) / 2 := w64 (by omega) (by omega)
    have hb : ¬ Op.bytesLess (rdC l ((i + j) / 2)).f0.toList m.toList = true := by rw [bl_lt]; simpa using hq
    simp only [api_TaxCode__tax_code_1.l0, e1, e2, e3, if_pos h1, if_pos (show 0 ≤ (i + j) / 2 by omega), if_pos (show (i + j) / 2 < (l.length : Int) by omega), tax_code_1.f, Option.bind_some, if_neg hb]
    exact hr
  · intro i r h0 h1 hr
    refine Ev.succ ?_
    obtain ⟨k0, hk⟩ := hr
    refine ⟨k0, fun k hk1 => ?_⟩
    have := hk k hk1
    simp only [api_TaxCode__tax_code_1.l0, if_neg (show ¬ i < i by omega)]
    exact this
  · intro c d h0 h1 h2 hq
    exact List.lt_trans (h.lt' h0 h1 h2) hq
theorem tax_code.hit {l : List TC} (h : CodesOk l) {j : Nat} (hj : j < l.length) : Ev (fun k => tax_code.f k l (rdC l (j : Int)).f0) ((rdC l (j : Int)).f0, (rdC l (j : Int)).f1, (rdC l (j : Int)).f2.f0, (rdC l (j : Int)).f2.f1, true) := by
  unfold tax_code.f api_TaxCode__tax_code_1.f
  obtain ⟨t, t0, t1, t2, t3, t4⟩ := code_out h (rdC l (j : Int)).f0
  have ht : t = (j : Int) := by
    rcases Int.lt_trichotomy t (j : Int) with c | c | c
    · exact absurd (h.lt' t0 c (by omega)) (t3 t (Int.le_refl _) (by omega))
    · exact c
    · exact absurd (t2 (j : Int) (by omega) c) (List.lt_irrefl _)
  subst ht
  refine Ev.bind (a := ((rdC l (j : Int)).f0, (rdC l (j : Int)).f1, (rdC l (j : Int)).f2.f0, (rdC l (j : Int)).f2.f1, true)) (t4 _ ?_) (Ev.const _)
  simp only [if_pos (show (j : Int) < (l.length : Int) by omega), if_pos (show (0 : Int) ≤ (j : Int) by omega), tax_code_1.f, Option.bind_some, if_true]
  exact Ev.const _
theorem tax_code.miss {l : List TC} (h : CodesOk l) {m : ByteArray} (hm : ∀ j : Nat, j < l.length → (rdC l (j : Int)).f0 ≠ m) : Ev (fun k => tax_code.f k l m) ((⟨#[]⟩ : ByteArray), (⟨#[]⟩ : ByteArray), 0, 0, false) := by
  unfold tax_code.f api_TaxCode__tax_code_1.f
  obtain ⟨t, t0, t1, t2, t3, t4⟩ := code_out h m
  refine Ev.bind (a := ((⟨#[]⟩ : ByteArray), (⟨#[]⟩ : ByteArray), (0 : Int), (0 : Int), false)) (t4 _ ?_) (Ev.const _)
  by_cases c : t < (l.length : Int)
  · have hne : ¬ (rdC l t).f0.toList = m.toList := by
      intro e
      have := hm t.toNat (by omega)
      rw [show ((t.toNat : Nat) : Int) = t by omega] at this
      exact this (toList_inj.1 e)
    simp only [if_pos c, if_pos t0, tax_code_1.f, Option.bind_some, if_neg hne]
    exact Ev.const _
  · simp only [if_neg c]
    exact Ev.const _
theorem ref_find.go {l : List TC} (hl : l.length ≤ 200) (m : ByteArray) : ∀ n i, i + n = l.length → (∃ r : Int, 0 ≤ r ∧ (∃ j : Nat, i ≤ j ∧ j < l.length ∧ (rdC l (j : Int)).f0 = m) ∧ Ev (fun k => accountingref25_find.l0 k l m (i : Int)) r) ∨ ((∀ j : Nat, i ≤ j → j < l.length → (rdC l (j : Int)).f0 ≠ m) ∧ Ev (fun k => accountingref25_find.l0 k l m (i : Int)) (-1))
  | 0, i, h => by
    right
    refine ⟨fun j _ _ => by omega, Ev.succ ?_⟩
    simp only [accountingref25_find.l0, if_neg (show ¬ (i : Int) < (l.length : Int) by omega)]
    exact Ev.const _
  | n + 1, i, h => by
    by_cases e : (rdC l (i : Int)).f0 = m
    · left
      refine ⟨(i : Int), by omega, ⟨i, Nat.le_refl _, by omega, e⟩, Ev.succ ?_⟩
      simp only [accountingref25_find.l0, if_pos (show (i : Int) < (l.length : Int) by omega), if_pos (show (0 : Int) ≤ (i : Int) by omega), if_pos (show (rdC l (i : Int)).f0.toList = m.toList by rw [e])]
      exact Ev.const _
    · have e2 : ¬ (rdC l (i : Int)).f0.toList = m.toList := fun h => e (toList_inj.1 h)
      have st : ∀ r, Ev (fun k => accountingref25_find.l0 k l m ((i + 1 : Nat) : Int)) r → Ev (fun k => accountingref25_find.l0 k l m (i : Int)) r := by
        intro r hr
        refine Ev.succ ?_
        simp only [accountingref25_find.l0, if_pos (show (i : Int) < (l.length : Int) by omega), if_pos (show (0 : Int) ≤ (i : Int) by omega), if_neg e2]
        rw [w64 (n := (i : Int) + 1) (by omega) (by omega), show (i : Int) + 1 = ((i + 1 : Nat) : Int) by omega]
        exact hr
      rcases ref_find.go hl m n (i + 1) (by omega) with ⟨r, r0, ⟨j, j0, j1, j2⟩, hr⟩ | ⟨hn, hr⟩
      · exact Or.inl ⟨r, r0, ⟨j, by omega, j1, j2⟩, st r hr⟩
      · refine Or.inr ⟨fun j h0 h1 => ?_, st _ hr⟩
        by_cases ej : j = i
        · subst ej; exact e
        · exact hn j (by omega) h1
end Go.Proofs.Ytgjpegmhlnabpaa.M
end
section
namespace Go.Proofs.Ytgjpegmhlnabpaa.M
open Go.RowKit Go.Proofs.YtgjpegmhlnabpaaW.PrintWords Go.Proofs.YtgjpegmhlnabpaaW.PrintLast Dv
set_option linter.unusedVariables false
set_option linter.unusedSimpArgs false
def fracOf (codes : List TC) (m : ByteArray) : Int × Int := match codes.find? (fun c => decide (c.f0 = m)) with | some c => (c.f2.f0, c.f2.f1) | none => (0, 0)
theorem fracOf_at {l : List TC} (h : CodesOk l) {j : Nat} (hj : j < l.length) : fracOf l (rdC l (j : Int)).f0 = ((rdC l (j : Int)).f2.f0, (rdC l (j : Int)).f2.f1) := by
  have e : ∀ i (hi : i < l.length), l[i] = rdC l (i : Int) := fun i hi => by
    show l[i] = l.getD (i : Int).toNat _
    simp [hi]
  have hf : l.find? (fun c => decide (c.f0 = (rdC l (j : Int)).f0)) = some (rdC l (j : Int)) := by
    rw [List.find?_eq_some_iff_getElem]
    refine ⟨by simp, j, hj, e j hj, fun i hi => ?_⟩
    have hlt := h.lt' (c := (i : Int)) (d := (j : Int)) (by omega) (by omega) (by omega)
    rw [e i (by omega)]
    have : (rdC l (i : Int)).f0 ≠ (rdC l (j : Int)).f0 := fun e2 => by rw [e2] at hlt; exact List.lt_irrefl _ hlt
    simp [this]
  unfold fracOf
  rw [hf]
theorem fracOf_in {l : List TC} (h : CodesOk l) (m : ByteArray) : inI (fracOf l m).1 ∧ inI (fracOf l m).2 := by
  unfold fracOf
  cases hf : l.find? (fun c => decide (c.f0 = m)) with
  | none => constructor <;> (unfold inI; simp)
  | some c =>
    have hm := List.mem_of_find?_eq_some hf
    exact (h.ok c hm).2
def known (codes : List TC) (m : ByteArray) : Bool := codes.any (fun c => decide (c.f0 = m))
theorem rdC_get {l : List TC} {j : Nat} (hj : j < l.length) : rdC l (j : Int) = l[j] := by show l.getD (j : Int).toNat _ = l[j]; simp [hj]
theorem known_iff (l : List TC) (m : ByteArray) : known l m = true ↔ ∃ j : Nat, j < l.length ∧ (rdC l (j : Int)).f0 = m := by
  unfold known
  rw [List.any_eq_true]
  constructor
  · rintro ⟨c, hc, h⟩
    obtain ⟨j, hj, rfl⟩ := List.mem_iff_getElem.1 hc
    exact ⟨j, hj, by rw [rdC_get hj]; simpa using h⟩
  · rintro ⟨j, hj, h⟩
    exact ⟨l[j], List.getElem_mem hj, by rw [rdC_get hj] at h; simpa using h⟩
theorem tax_code.F {l : List TC} (h : CodesOk l) (m : ByteArray) : ∃ c, Ev (fun k => tax_code.f k l m) c ∧ c.2.2.1 = (fracOf l m).1 ∧ c.2.2.2.1 = (fracOf l m).2 ∧ c.2.2.2.2 = known l m := by
  by_cases e : ∃ j : Nat, j < l.length ∧ (rdC l (j : Int)).f0 = m
  · obtain ⟨j, hj, rfl⟩ := e
    exact ⟨_, tax_code.hit h hj, by rw [fracOf_at h hj], by rw [fracOf_at h hj], ((known_iff l _).2 ⟨j, hj, rfl⟩).symm⟩
  · have hm : ∀ j : Nat, j < l.length → (rdC l (j : Int)).f0 ≠ m := fun j hj e2 => e ⟨j, hj, e2⟩
    have hn : l.find? (fun c => decide (c.f0 = m)) = none := by
      rw [List.find?_eq_none]
      intro c hc
      obtain ⟨j, hj, rfl⟩ := List.mem_iff_getElem.1 hc
      have := hm j hj
      have e2 : rdC l (j : Int) = l[j] := by show l.getD (j : Int).toNat _ = l[j]; simp [hj]
      rw [e2] at this
      simpa using this
    exact ⟨_, tax_code.miss h hm, by unfold fracOf; rw [hn], by unfold fracOf; rw [hn], (Bool.eq_false_iff.2 (fun hk => e ((known_iff l m).1 hk))).symm⟩
def partsv (way mode x n d : Int) : Int × Int := if way = 1 then (x, (onv x n d mode).1) else if way = 3 then ((inv x n d mode).1, (inv x n d mode).2.1) else (x, 0)
theorem tax_parts.eq {way mode x n d : Int} (hx : inI x) (hn : inI n) (hd : inI d) : Ev (fun k => tax_parts.f k way mode x n d) (partsv way mode x n d) := by
  unfold tax_parts.f partsv
  by_cases c1 : way = 1
  · simp only [if_pos c1]
    exact Ev.bind (tax_On.eq hx hn hd) (Ev.const _)
  · simp only [if_neg c1]
    by_cases c3 : way = 3
    · simp only [if_pos c3]
      exact Ev.bind (tax_In.eq hx hn hd) (Ev.const _)
    · simp only [if_neg c3]
      exact Ev.const _
def lp (way mode : Int) (codes : List TC) (x : TxLine) : Int × Int := partsv way mode x.f0 (fracOf codes x.f1).1 (fracOf codes x.f1).2
def netv (way mode : Int) (codes : List TC) (x : TxLine) : Int := if x.f1.toList = ([] : List UInt8) then x.f0 else (lp way mode codes x).1
def stepL (way mode : Int) (codes : List TC) (L : List (ByteArray × TxSum)) (x : TxLine) : List (ByteArray × TxSum) :=
  if x.f1.toList = ([] : List UInt8) then L else aput L x.f1 ⟨x.f1, wrap64 (((aget L x.f1).getD txZero).f1 + (lp way mode codes x).1), wrap64 (((aget L x.f1).getD txZero).f2 + (lp way mode codes x).2)⟩
theorem ofL.eq {codes : List TC} (h : CodesOk codes) (way mode : Int) : ∀ (l : List TxLine) (n : List Int) (L : List (ByteArray × TxSum)), (∀ x ∈ l, inI x.f0) → n.length + l.length ≤ 1000000 → Ev (fun k => ofL k way mode codes l n L) (n ++ l.map (netv way mode codes), l.foldl (stepL way mode codes) L)
  | [], n, L, _, _ => by
    simp only [List.map_nil, List.append_nil, List.foldl_nil]
    exact Ev.const _
  | x :: r, n, L, hx, hl => by
    have hl2 : n.length + (r.length + 1) ≤ 1000000 := hl
    have hx0 := hx x (by simp)
    have hr : ∀ y ∈ r, inI y.f0 := fun y hy => hx y (by simp [hy])
    simp only [ofL, if_pos (show n.length < 17592186044416 by omega), List.map_cons, List.foldl_cons]
    by_cases c : x.f1.toList = ([] : List UInt8)
    · have e1 : netv way mode codes x = x.f0 := by unfold netv; rw [if_pos c]
      have e2 : stepL way mode codes L x = L := by unfold stepL; rw [if_pos c]
      rw [e1, e2]
      simp only [if_pos c]
      have := ofL.eq h way mode r (n ++ [x.f0]) L hr (by simp; omega)
      rw [List.append_assoc, List.singleton_append] at this
      exact this
    · have e1 : netv way mode codes x = (lp way mode codes x).1 := by unfold netv; rw [if_neg c]
      have e2 : stepL way mode codes L x = aput L x.f1 ⟨x.f1, wrap64 (((aget L x.f1).getD txZero).f1 + (lp way mode codes x).1), wrap64 (((aget L x.f1).getD txZero).f2 + (lp way mode codes x).2)⟩ := by unfold stepL; rw [if_neg c]
      rw [e1, e2]
      simp only [if_neg c]
      obtain ⟨q, hq, q1, q2, _⟩ := tax_code.F h x.f1
      refine Ev.bind hq ?_
      have hin := fracOf_in h x.f1
      rw [q1, q2]
      refine Ev.bind (tax_parts.eq hx0 hin.1 hin.2) ?_
      have := ofL.eq h way mode r (n ++ [(lp way mode codes x).1]) (aput L x.f1 ⟨x.f1, wrap64 (((aget L x.f1).getD txZero).f1 + (lp way mode codes x).1), wrap64 (((aget L x.f1).getD txZero).f2 + (lp way mode codes x).2)⟩) hr (by simp; omega)
      rw [List.append_assoc, List.singleton_append] at this
      exact this
/-! The list of pairs. -/
section
variable {κ ν : Type} [DecidableEq κ]
theorem aget_aput (k k' : κ) (v : ν) : ∀ L : List (κ × ν), aget (aput L k v) k' = if k = k' then some v else aget L k'
  | [] => by simp [aput, aget]
  | p :: L => by
    unfold aput
    by_cases c : p.1 = k
    · rw [if_pos c]
      unfold aget
      by_cases e : k = k'
      · simp [e]
      · simp [e, c]
    · rw [if_neg c]
      unfold aget
      rw [aget_aput k k' v L]
      by_cases e : p.1 = k'
      · have : ¬ k = k' := fun e2 => c (e.trans e2.symm)
        simp [e, this]
      · simp [e]
theorem aput_keys (k : κ) (v : ν) : ∀ L : List (κ × ν), (aput L k v).map (·.1) = if k ∈ L.map (·.1) then L.map (·.1) else L.map (·.1) ++ [k]
  | [] => by simp [aput]
  | p :: L => by
    unfold aput
    by_cases c : p.1 = k
    · simp [c]
    · have c2 : ¬ k = p.1 := fun e => c e.symm
      rw [if_neg c, List.map_cons, aput_keys k v L]
      by_cases e : k ∈ L.map (·.1)
      · simp [e, c2]
      · simp [e, c2]
theorem mem_keys (k : κ) : ∀ L : List (κ × ν), k ∈ L.map (·.1) ↔ (aget L k).isSome = true
  | [] => by simp [aget]
  | p :: L => by
    unfold aget
    by_cases c : p.1 = k
    · simp [c]
    · have c2 : ¬ k = p.1 := fun e => c e.symm
      rw [if_neg c, ← mem_keys k L]
      simp [c2]
end
end Go.Proofs.Ytgjpegmhlnabpaa.M
end
section
-- Written by mprint.py (a program of this session) over the kit's print.
namespace Go.Proofs.Ytgjpegmhlnabpaa.M
open Go.RowKit Go.Proofs.YtgjpegmhlnabpaaW.PrintWords Go.Proofs.YtgjpegmhlnabpaaW.PrintLast Go.Proofs.YtgjpegmhlnabpaaW.PrintMore
attribute [local go_sem] max2_int min2_int max_two min_two max_three min_three max_four min_four   -- for this text's walks alone
set_option linter.unusedVariables false
set_option linter.unusedSimpArgs false
/-! ### accountingref25_check: function 35 -/
mutual
def accountingref25_check.j0 : Nat → List (S49) → List (S59) → Bool → Option (Int)
  | 0, _, _, _ => none
  | k + 1, x0, x1, x23 => if x23 = true then (some 10) else ((accountingref25_Codes.f k x1).bind fun t101 => (if t101 = true then (if (x0.length : Int) > 200 then (some 9) else (accountingref25_check.l0 k x0 x1 0)) else (some 2)))
def accountingref25_check.l0 : Nat → List (S49) → List (S59) → Int → Option (Int)
  | 0, _, _, _ => none
  | k + 1, x0, x1, x9 => if x9 < (x0.length : Int) then (if 0 ≤ x9 then ((accountingref25_large.f ((rd_T49 x0 x9).f0) 1000000000000).bind fun t103 => (if t103 = true then (some 4) else (if ((rd_T49 x0 x9).f1).toList = ([] : List UInt8) then (accountingref25_check.l0 k x0 x1 (wrap64 (x9 + 1))) else ((accountingref25_find.f k x1 ((rd_T49 x0 x9).f1)).bind fun t106 => (if t106 < 0 then (some 28) else (accountingref25_check.l0 k x0 x1 (wrap64 (x9 + 1)))))))) else (none)) else (some 0)
end
def accountingref25_check.f (k : Nat) (l0 : List (S49)) (l1 : List (S59)) (a2 : Int) (a3 : Int) : Option (Int) := if a2 < 1 then (accountingref25_check.j0 k l0 l1 true) else (if a2 > 3 then (accountingref25_check.j0 k l0 l1 true) else (if a3 < 1 then (accountingref25_check.j0 k l0 l1 true) else (accountingref25_check.j0 k l0 l1 (decide (a3 > 5)))))
theorem accountingref25_check.mono_l : ∀ k, (∀ y0 y1 y2, LeO (accountingref25_check.j0 k y0 y1 y2) (accountingref25_check.j0 (k + 1) y0 y1 y2)) ∧ (∀ y0 y1 y2, LeO (accountingref25_check.l0 k y0 y1 y2) (accountingref25_check.l0 (k + 1) y0 y1 y2))
  | 0 => ⟨fun _ _ _ r h => by simp [accountingref25_check.j0] at h, fun _ _ _ r h => by simp [accountingref25_check.l0] at h⟩
  | k + 1 => by
    obtain ⟨ih0, ih1⟩ := accountingref25_check.mono_l k
    refine ⟨?_, ?_⟩
    · intro y0 y1 y2
      unfold accountingref25_check.j0
      repeat' first
      | (with_reducible exact ih0 _ _ _)
      | (with_reducible exact ih1 _ _ _)
      | (with_reducible exact accountingref25_Codes.mono _ _)
      | (with_reducible exact accountingref25_find.mono _ _ _)
      | (with_reducible exact LeO.refl _)
      | (with_reducible exact LeO.none _)
      | (with_reducible refine LeO.ite ?_ ?_)
      | (with_reducible refine LeO.bind ?_ (fun _ => ?_))
      | exact ih0 _ _ _
      | exact ih1 _ _ _
      | exact accountingref25_Codes.mono _ _
      | exact accountingref25_find.mono _ _ _
      | exact LeO.none _
      | refine LeO.ite ?_ ?_
      | refine LeO.bind ?_ (fun _ => ?_)
    · intro y0 y1 y2
      unfold accountingref25_check.l0
      repeat' first
      | (with_reducible exact ih0 _ _ _)
      | (with_reducible exact ih1 _ _ _)
      | (with_reducible exact accountingref25_Codes.mono _ _)
      | (with_reducible exact accountingref25_find.mono _ _ _)
      | (with_reducible exact LeO.refl _)
      | (with_reducible exact LeO.none _)
      | (with_reducible refine LeO.ite ?_ ?_)
      | (with_reducible refine LeO.bind ?_ (fun _ => ?_))
      | exact ih0 _ _ _
      | exact ih1 _ _ _
      | exact accountingref25_Codes.mono _ _
      | exact accountingref25_find.mono _ _ _
      | exact LeO.none _
      | refine LeO.ite ?_ ?_
      | refine LeO.bind ?_ (fun _ => ?_)
theorem accountingref25_check.mono : ∀ a0 a1 a2 a3 k, LeO (accountingref25_check.f k a0 a1 a2 a3) (accountingref25_check.f (k + 1) a0 a1 a2 a3) := by
 intro a0 a1 a2 a3 k
 obtain ⟨ih0, ih1⟩ := accountingref25_check.mono_l k
 unfold accountingref25_check.f
 repeat' first
   | (with_reducible exact ih0 _ _ _)
   | (with_reducible exact ih1 _ _ _)
   | (with_reducible exact accountingref25_Codes.mono _ _)
   | (with_reducible exact accountingref25_find.mono _ _ _)
   | (with_reducible exact LeO.refl _)
   | (with_reducible exact LeO.none _)
   | (with_reducible refine LeO.ite ?_ ?_)
   | (with_reducible refine LeO.bind ?_ (fun _ => ?_))
   | exact ih0 _ _ _
   | exact ih1 _ _ _
   | exact accountingref25_Codes.mono _ _
   | exact accountingref25_find.mono _ _ _
   | exact LeO.none _
   | refine LeO.ite ?_ ?_
   | refine LeO.bind ?_ (fun _ => ?_)
set_option maxHeartbeats 8000000 in
set_option maxRecDepth 100000 in
theorem accountingref25_check.calls (k : Nat) (A0 : Option Addr) (c0 : Nat) (l0 : List (S49)) (A1 : Option Addr) (c1 : Nat) (l1 : List (S59)) (a2 : Int) (a3 : Int) (r : Int) (w : World) (hr0 : Kd.C k49 w A0 l0.length l0) (hc0 : l0.length ≤ c0) (hr1 : Kd.C k59 w A1 l1.length l1) (hc1 : l1.length ≤ c1) (h : accountingref25_check.f k l0 l1 a2 a3 = some r) :
    Calls Try.prog 35 #[.slice A0 l0.length c0, .slice A1 l1.length c1, .int .i64 a2, .int .i64 a3] w fun e w' => e = .returned (.int .i64 r) ∧ Below w.heap.size w w' := by
 have hu3 := Try.underlying3
 have hu9 := Try.underlying9
 have HR0 := Aside0.mk hr0
 have HC0 := Aside0.mk hc0
 clear hr0 hc0
 have HR1 := Aside0.mk hr1
 have HC1 := Aside0.mk hc1
 clear hr1 hc1
 have HB := Aside0.mk (Below.refl w.heap.size w)
 have H : (if a2 < 1 then (accountingref25_check.j0 k l0 l1 true) else (if a2 > 3 then (accountingref25_check.j0 k l0 l1 true) else (if a3 < 1 then (accountingref25_check.j0 k l0 l1 true) else (accountingref25_check.j0 k l0 l1 (decide (a3 > 5)))))) = some r := h
 clear h
 have HC5 := Aside0.mk H
 clear H
 go_enter Try.func35, Try.ntmps35
 go_upto_region 1 with (fail)
 go_cut [23] (fun v23 wc => ∃ (kq : Nat) (x23_4 : Bool), v23 = .bool x23_4 ∧ Aside0 (accountingref25_check.j0 kq l0 l1 x23_4 = some r) ∧ Aside0 (kq ≤ k) ∧ Aside0 (Below w.heap.size w wc))
 case first =>
  have H := HC5.out
  clear HC5
  by_cases c6 : a2 < 1
  ·rw [if_pos c6] at H
   have c6b0 : decide (a2 < 1) = true := decide_eq_true c6
   clear c6
   (first | rw [c6b0] | (simp only [i64_w, i32_w]; rw [c6b0]) | skip)
   have H' := Aside0.mk H
   clear H
   go_wp2
   go_meet
   case rel => exact ⟨_, (true), (by first | rfl | (simp; done) | (simp [*]; done)), H', ⟨by first | omega | exact Nat.le_refl _⟩, ⟨by repeat (first | (with_reducible first | exact HB.out | apply below_alloc | apply pw_below_drewN | apply below_drew1) | exact HB.out)⟩⟩
  ·rw [if_neg c6] at H
   have c6b0 : decide (a2 < 1) = false := decide_eq_false c6
   clear c6
   (first | rw [c6b0] | (simp only [i64_w, i32_w]; rw [c6b0]) | skip)
   by_cases c7 : a2 > 3
   ·rw [if_pos c7] at H
    have c7b0 : decide (3 < a2) = true := decide_eq_true c7
    clear c7
    have H' := Aside0.mk H
    clear H
    go_wp2
    go_meet
    case rel => exact ⟨_, (true), (by first | rfl | (simp; done) | (simp [*]; done)), H', ⟨by first | omega | exact Nat.le_refl _⟩, ⟨by repeat (first | (with_reducible first | exact HB.out | apply below_alloc | apply pw_below_drewN | apply below_drew1) | exact HB.out)⟩⟩
   ·rw [if_neg c7] at H
    have c7b0 : decide (3 < a2) = false := decide_eq_false c7
    clear c7
    by_cases c8 : a3 < 1
    ·rw [if_pos c8] at H
     have c8b0 : decide (a3 < 1) = true := decide_eq_true c8
     clear c8
     have H' := Aside0.mk H
     clear H
     go_wp2
     go_meet
     case rel => exact ⟨_, (true), (by first | rfl | (simp; done) | (simp [*]; done)), H', ⟨by first | omega | exact Nat.le_refl _⟩, ⟨by repeat (first | (with_reducible first | exact HB.out | apply below_alloc | apply pw_below_drewN | apply below_drew1) | exact HB.out)⟩⟩
    ·rw [if_neg c8] at H
     have c8b0 : decide (a3 < 1) = false := decide_eq_false c8
     clear c8
     have H' := Aside0.mk H
     clear H
     go_wp2
     go_meet
     case rel => exact ⟨_, (decide (a3 > 5)), (by first | rfl | (simp; done) | (simp [*]; done)), H', ⟨by first | omega | exact Nat.le_refl _⟩, ⟨by repeat (first | (with_reducible first | exact HB.out | apply below_alloc | apply pw_below_drewN | apply below_drew1) | exact HB.out)⟩⟩
 case rest =>
  clear HC5
  try clear c1
  try clear p2
  try clear c3
  try clear c6
  try clear c6b0
  try clear c7
  try clear c7b0
  try clear c8
  try clear c8b0
  obtain ⟨kq, x23_4, rfl, HA, HJ4, HB⟩ := hcut
  cases kq with
  | zero => exact absurd HA.out (by simp [accountingref25_check.j0])
  | succ kj4 =>
   have H := HA.out
   clear HA
   simp only [accountingref25_check.j0] at H
   by_cases c9 : x23_4 = true
   ·subst c9
    have H1 : (some 10) = some r := by rw [if_pos rfl] at H; exact H
    clear H
    have H := H1
    clear H1
    obtain rfl := Option.some.inj H
    go_wp2
    go_ret
    exact ⟨by first | rfl | (simp [errW_none, errW_some] <;> rfl) | (simp [*, errW_none, errW_some] <;> rfl), by repeat (first | (with_reducible first | exact HB.out | apply below_alloc | apply pw_below_drewN | apply below_drew1) | exact HB.out)⟩
   ·replace c9 := Bool.eq_false_iff.mpr c9
    subst c9
    have H1 : ((accountingref25_Codes.f kj4 l1).bind fun t101 => (if t101 = true then (if (l0.length : Int) > 200 then (some 9) else (accountingref25_check.l0 kj4 l0 l1 0)) else (some 2))) = some r := by rw [if_neg (show ¬ (false = true) by decide)] at H; exact H
    clear H
    have H := H1
    clear H1
    replace H := Option.bind_eq_some_iff.mp H
    obtain ⟨t101, A100, H⟩ := H
    replace H : (if t101 = true then (if (l0.length : Int) > 200 then (some 9) else (accountingref25_check.l0 kj4 l0 l1 0)) else (some 2)) = some r := H
    have A10 := Aside0.mk A100
    clear A100
    by_cases c11 : t101 = true
    ·subst c11
     have H1 : (if (l0.length : Int) > 200 then (some 9) else (accountingref25_check.l0 kj4 l0 l1 0)) = some r := by rw [if_pos rfl] at H; exact H
     clear H
     have H := H1
     clear H1
     by_cases c12 : (l0.length : Int) > 200
     ·rw [if_pos c12] at H
      have c12b0 : decide (200 < (l0.length : Int)) = true := decide_eq_true c12
      have c12b1 : decide (200 < l0.length) = true := decide_eq_true (by omega)
      clear c12
      obtain rfl := Option.some.inj H
      go_wp2_with (first | ((with_reducible refine gate_callee (f := 16) rfl ?_); refine goesL_ (some 25) rfl rfl Try.func16 (by kernel_rfl) rfl #[.slice A1 l1.length c1] rfl (by (try simp only [List.map_toArray, List.map_cons, List.map_nil]); first | done | rfl | (simp only [List.length_drop, List.length_take]; rfl)) ?_; (with_reducible refine (accountingref25_Codes.calls kj4 _ _ l1 true _ ?side1 ?side2 A10.out).mono ?_); (case side1 => repeat (first | exact (Kd.C_below HR1.out HB.out) | (with_reducible refine Kd.C_alloc ?_ _) | (with_reducible refine Kd.C_drewN ?_ _) | (with_reducible refine Kd.C_drew ?_))); (case side2 => exact HC1.out); rintro e w13 ⟨rfl, hb⟩; refine ⟨_, rfl, ?_⟩; have n0_ := Aside0.mk (below_step (by repeat (first | (with_reducible first | exact HB.out | apply below_alloc | apply pw_below_drewN | apply below_drew1) | exact HB.out)) hb); clear HB; have HB := n0_; clear n0_; (try clear hb); (try clear hb2); (try clear hk); (try clear hi)))
      go_ret
      exact ⟨by first | rfl | (simp [errW_none, errW_some] <;> rfl) | (simp [*, errW_none, errW_some] <;> rfl), by repeat (first | (with_reducible first | exact HB.out | apply below_alloc | apply pw_below_drewN | apply below_drew1) | exact HB.out)⟩
     ·rw [if_neg c12] at H
      have c12b0 : decide (200 < (l0.length : Int)) = false := decide_eq_false c12
      have c12b1 : decide (200 < l0.length) = false := decide_eq_false (by omega)
      clear c12
      have H' := Aside0.mk H
      clear H
      go_wp2_with (first | ((with_reducible refine gate_callee (f := 16) rfl ?_); refine goesL_ (some 25) rfl rfl Try.func16 (by kernel_rfl) rfl #[.slice A1 l1.length c1] rfl (by (try simp only [List.map_toArray, List.map_cons, List.map_nil]); first | done | rfl | (simp only [List.length_drop, List.length_take]; rfl)) ?_; (with_reducible refine (accountingref25_Codes.calls kj4 _ _ l1 true _ ?side1 ?side2 A10.out).mono ?_); (case side1 => repeat (first | exact (Kd.C_below HR1.out HB.out) | (with_reducible refine Kd.C_alloc ?_ _) | (with_reducible refine Kd.C_drewN ?_ _) | (with_reducible refine Kd.C_drew ?_))); (case side2 => exact HC1.out); rintro e w14 ⟨rfl, hb⟩; refine ⟨_, rfl, ?_⟩; have n0_ := Aside0.mk (below_step (by repeat (first | (with_reducible first | exact HB.out | apply below_alloc | apply pw_below_drewN | apply below_drew1) | exact HB.out)) hb); clear HB; have HB := n0_; clear n0_; (try clear hb); (try clear hb2); (try clear hk); (try clear hi)))
      (try simp only [Act.put, List.setIfInBounds_toArray, List.set_cons_zero, List.set_cons_succ])
      go_loopg [9] kj4 (fun kq v9 w' => ∃ (x9_2 : Int), v9 = .int .i64 x9_2 ∧ Aside0 (accountingref25_check.l0 kq l0 l1 x9_2 = some r) ∧ Aside0 (kq ≤ kj4) ∧ Aside0 (Below w.heap.size w w'))
      case atStart => exact ⟨(0), (by first | rfl | (simp; done) | (simp [*]; done)), H', ⟨Nat.le_refl _⟩, ⟨by repeat (first | (with_reducible first | exact HB.out | apply below_alloc | apply pw_below_drewN | apply below_drew1) | exact HB.out)⟩⟩
      case round =>
       clear H'
       try clear c1
       try clear p2
       try clear c3
       try clear c6
       try clear c6b0
       try clear c7
       try clear c7b0
       try clear c8
       try clear c8b0
       try clear c9
       try clear c11
       try clear c12
       try clear c12b0
       try clear c12b1
       try clear p2
       obtain ⟨x9_2, rfl, HA, HK2, HB⟩ := hrel
       cases gk with
       | zero => exact absurd HA.out (by simp [accountingref25_check.l0])
       | succ k2 =>
        have H := HA.out
        clear HA
        simp only [accountingref25_check.l0] at H
        by_cases c15 : x9_2 < (l0.length : Int)
        ·rw [if_pos c15] at H
         have c15b0 : decide (x9_2 < (l0.length : Int)) = true := decide_eq_true c15
         clear c15
         by_cases c16 : 0 ≤ x9_2
         ·rw [if_pos c16] at H
          have c16b0 : decide (0 ≤ x9_2) = true := decide_eq_true c16
          clear c16
          replace H := Option.bind_eq_some_iff.mp H
          obtain ⟨t103, A170, H⟩ := H
          replace H : (if t103 = true then (some 4) else (if ((rd_T49 l0 x9_2).f1).toList = ([] : List UInt8) then (accountingref25_check.l0 k2 l0 l1 (wrap64 (x9_2 + 1))) else ((accountingref25_find.f k2 l1 ((rd_T49 l0 x9_2).f1)).bind fun t106 => (if t106 < 0 then (some 28) else (accountingref25_check.l0 k2 l0 l1 (wrap64 (x9_2 + 1))))))) = some r := H
          have A17 := Aside0.mk A170
          clear A170
          by_cases c18 : t103 = true
          ·subst c18
           have H1 : (some 4) = some r := by rw [if_pos rfl] at H; exact H
           clear H
           have H := H1
           clear H1
           obtain rfl := Option.some.inj H
           have p102 : 0 ≤ (x9_2 : Int) := of_decide_eq_true (by first | (with_reducible assumption) | assumption)
           have q102 : x9_2 < (l0.length : Int) := of_decide_eq_true (by first | (with_reducible assumption) | assumption)
           obtain ⟨ad102, e102, hx102_0, hx102_1⟩ := at_T49 HR0.out x9_2 p102 q102
           cases e102
           replace hx102_0 := (HB.out.cell (World.block_lt_of_cell? w _ hx102_0)).trans hx102_0
           replace hx102_1 := (HB.out.cell (World.block_lt_of_cell? w _ hx102_1)).trans hx102_1
           replace p102 := eq_true p102
           replace q102 := eq_true q102
           go_wp2_with (first | ((with_reducible refine gate_callee (f := 43) rfl ?_); refine goesL_ (some 41) rfl rfl Try.func43 (by kernel_rfl) rfl #[.int .i64 ((rd_T49 l0 x9_2).f0), .int .i64 1000000000000] rfl (by (try simp only [List.map_toArray, List.map_cons, List.map_nil]); first | done | rfl | (simp only [List.length_drop, List.length_take]; rfl)) ?_; (with_reducible refine (accountingref25_large.calls ((rd_T49 l0 x9_2).f0) 1000000000000 true _ A17.out).mono ?_); rintro e w' ⟨rfl, ⟨nd, rfl⟩⟩; refine ⟨_, rfl, ?_⟩))
           go_ret
           exact ⟨by first | rfl | (simp [errW_none, errW_some] <;> rfl) | (simp [*, errW_none, errW_some] <;> rfl), by repeat (first | (with_reducible first | exact HB.out | apply below_alloc | apply pw_below_drewN | apply below_drew1) | exact HB.out)⟩
          ·replace c18 := Bool.eq_false_iff.mpr c18
           subst c18
           have H1 : (if ((rd_T49 l0 x9_2).f1).toList = ([] : List UInt8) then (accountingref25_check.l0 k2 l0 l1 (wrap64 (x9_2 + 1))) else ((accountingref25_find.f k2 l1 ((rd_T49 l0 x9_2).f1)).bind fun t106 => (if t106 < 0 then (some 28) else (accountingref25_check.l0 k2 l0 l1 (wrap64 (x9_2 + 1)))))) = some r := by rw [if_neg (show ¬ (false = true) by decide)] at H; exact H
           clear H
           have H := H1
           clear H1
           by_cases c19 : ((rd_T49 l0 x9_2).f1).toList = ([] : List UInt8)
           ·rw [if_pos c19] at H
            have c19b0 : (((rd_T49 l0 x9_2).f1).toList == ([] : List UInt8)) = true := beq_iff_eq.mpr c19
            have c19b1 : (((rd_T49 l0 x9_2).f1).toList != ([] : List UInt8)) = false := bne_eq_false_iff_eq.mpr c19
            clear c19
            have H' := Aside0.mk H
            clear H
            have p102 : 0 ≤ (x9_2 : Int) := of_decide_eq_true (by first | (with_reducible assumption) | assumption)
            have q102 : x9_2 < (l0.length : Int) := of_decide_eq_true (by first | (with_reducible assumption) | assumption)
            obtain ⟨ad102, e102, hx102_0, hx102_1⟩ := at_T49 HR0.out x9_2 p102 q102
            cases e102
            replace hx102_0 := (HB.out.cell (World.block_lt_of_cell? w _ hx102_0)).trans hx102_0
            replace hx102_1 := (HB.out.cell (World.block_lt_of_cell? w _ hx102_1)).trans hx102_1
            replace p102 := eq_true p102
            replace q102 := eq_true q102
            go_wp2_with (first | ((with_reducible refine gate_callee (f := 43) rfl ?_); refine goesL_ (some 41) rfl rfl Try.func43 (by kernel_rfl) rfl #[.int .i64 ((rd_T49 l0 x9_2).f0), .int .i64 1000000000000] rfl (by (try simp only [List.map_toArray, List.map_cons, List.map_nil]); first | done | rfl | (simp only [List.length_drop, List.length_take]; rfl)) ?_; (with_reducible refine (accountingref25_large.calls ((rd_T49 l0 x9_2).f0) 1000000000000 false _ A17.out).mono ?_); rintro e w' ⟨rfl, ⟨nd, rfl⟩⟩; refine ⟨_, rfl, ?_⟩; have p104 : 0 ≤ (x9_2 : Int) := of_decide_eq_true (by first | (with_reducible assumption) | assumption); have q104 : x9_2 < (l0.length : Int) := of_decide_eq_true (by first | (with_reducible assumption) | assumption); obtain ⟨ad104, e104, hx104_0, hx104_1⟩ := at_T49 HR0.out x9_2 p104 q104; obtain rfl : ad102 = ad104 := (by injection e104); replace hx104_0 := (HB.out.cell (World.block_lt_of_cell? w _ hx104_0)).trans hx104_0; replace hx104_1 := (HB.out.cell (World.block_lt_of_cell? w _ hx104_1)).trans hx104_1; replace p104 := eq_true p104; replace q104 := eq_true q104))
            go_roundg k2
            case measure => have := HJ4.out; have := HK2.out; omega
            case rel => exact ⟨(wrap64 (x9_2 + 1)), (by first | rfl | (simp; done) | (simp [*]; done)), H', ⟨by have := HJ4.out; have := HK2.out; omega⟩, ⟨by repeat (first | (with_reducible first | exact HB.out | apply below_alloc | apply pw_below_drewN | apply below_drew1) | exact HB.out)⟩⟩
           ·rw [if_neg c19] at H
            have c19b0 : (((rd_T49 l0 x9_2).f1).toList == ([] : List UInt8)) = false := beq_eq_false_iff_ne.mpr c19
            have c19b1 : (((rd_T49 l0 x9_2).f1).toList != ([] : List UInt8)) = true := bne_iff_ne.mpr c19
            replace H := Option.bind_eq_some_iff.mp H
            obtain ⟨t106, A200, H⟩ := H
            replace H : (if t106 < 0 then (some 28) else (accountingref25_check.l0 k2 l0 l1 (wrap64 (x9_2 + 1)))) = some r := H
            have A20 := Aside0.mk A200
            clear A200
            by_cases c21 : t106 < 0
            ·rw [if_pos c21] at H
             have c21b0 : decide (t106 < 0) = true := decide_eq_true c21
             clear c21
             obtain rfl := Option.some.inj H
             have p102 : 0 ≤ (x9_2 : Int) := of_decide_eq_true (by first | (with_reducible assumption) | assumption)
             have q102 : x9_2 < (l0.length : Int) := of_decide_eq_true (by first | (with_reducible assumption) | assumption)
             obtain ⟨ad102, e102, hx102_0, hx102_1⟩ := at_T49 HR0.out x9_2 p102 q102
             cases e102
             replace hx102_0 := (HB.out.cell (World.block_lt_of_cell? w _ hx102_0)).trans hx102_0
             replace hx102_1 := (HB.out.cell (World.block_lt_of_cell? w _ hx102_1)).trans hx102_1
             replace p102 := eq_true p102
             replace q102 := eq_true q102
             go_wp2_with (first | ((with_reducible refine gate_callee (f := 43) rfl ?_); refine goesL_ (some 41) rfl rfl Try.func43 (by kernel_rfl) rfl #[.int .i64 ((rd_T49 l0 x9_2).f0), .int .i64 1000000000000] rfl (by (try simp only [List.map_toArray, List.map_cons, List.map_nil]); first | done | rfl | (simp only [List.length_drop, List.length_take]; rfl)) ?_; (with_reducible refine (accountingref25_large.calls ((rd_T49 l0 x9_2).f0) 1000000000000 false _ A17.out).mono ?_); rintro e w' ⟨rfl, ⟨nd, rfl⟩⟩; refine ⟨_, rfl, ?_⟩; have p104 : 0 ≤ (x9_2 : Int) := of_decide_eq_true (by first | (with_reducible assumption) | assumption); have q104 : x9_2 < (l0.length : Int) := of_decide_eq_true (by first | (with_reducible assumption) | assumption); obtain ⟨ad104, e104, hx104_0, hx104_1⟩ := at_T49 HR0.out x9_2 p104 q104; obtain rfl : ad102 = ad104 := (by injection e104); replace hx104_0 := (HB.out.cell (World.block_lt_of_cell? w _ hx104_0)).trans hx104_0; replace hx104_1 := (HB.out.cell (World.block_lt_of_cell? w _ hx104_1)).trans hx104_1; replace p104 := eq_true p104; replace q104 := eq_true q104; have p105 : 0 ≤ (x9_2 : Int) := of_decide_eq_true (by first | (with_reducible assumption) | assumption); have q105 : x9_2 < (l0.length : Int) := of_decide_eq_true (by first | (with_reducible assumption) | assumption); obtain ⟨ad105, e105, hx105_0, hx105_1⟩ := at_T49 HR0.out x9_2 p105 q105; obtain rfl : ad102 = ad105 := (by injection e105); replace hx105_0 := (HB.out.cell (World.block_lt_of_cell? w _ hx105_0)).trans hx105_0; replace hx105_1 := (HB.out.cell (World.block_lt_of_cell? w _ hx105_1)).trans hx105_1; replace p105 := eq_true p105; replace q105 := eq_true q105) | (go_at_call 63; (with_reducible refine (accountingref25_find.calls k2 _ _ l1 ((rd_T49 l0 x9_2).f1) t106 _ ?side1 ?side2 A20.out).mono ?_); (case side1 => repeat (first | exact (Kd.C_below HR1.out (by repeat (first | (with_reducible first | exact HB.out | apply below_alloc | apply pw_below_drewN | apply below_drew1) | exact HB.out))) | (with_reducible refine Kd.C_alloc ?_ _) | (with_reducible refine Kd.C_drewN ?_ _) | (with_reducible refine Kd.C_drew ?_))); (case side2 => exact HC1.out); rintro e w' ⟨rfl, ⟨nd, rfl⟩⟩))
             go_ret
             exact ⟨by first | rfl | (simp [errW_none, errW_some] <;> rfl) | (simp [*, errW_none, errW_some] <;> rfl), by repeat (first | (with_reducible first | exact HB.out | apply below_alloc | apply pw_below_drewN | apply below_drew1) | exact HB.out)⟩
            ·rw [if_neg c21] at H
             have c21b0 : decide (t106 < 0) = false := decide_eq_false c21
             clear c21
             have H' := Aside0.mk H
             clear H
             have p102 : 0 ≤ (x9_2 : Int) := of_decide_eq_true (by first | (with_reducible assumption) | assumption)
             have q102 : x9_2 < (l0.length : Int) := of_decide_eq_true (by first | (with_reducible assumption) | assumption)
             obtain ⟨ad102, e102, hx102_0, hx102_1⟩ := at_T49 HR0.out x9_2 p102 q102
             cases e102
             replace hx102_0 := (HB.out.cell (World.block_lt_of_cell? w _ hx102_0)).trans hx102_0
             replace hx102_1 := (HB.out.cell (World.block_lt_of_cell? w _ hx102_1)).trans hx102_1
             replace p102 := eq_true p102
             replace q102 := eq_true q102
             go_wp2_with (first | ((with_reducible refine gate_callee (f := 43) rfl ?_); refine goesL_ (some 41) rfl rfl Try.func43 (by kernel_rfl) rfl #[.int .i64 ((rd_T49 l0 x9_2).f0), .int .i64 1000000000000] rfl (by (try simp only [List.map_toArray, List.map_cons, List.map_nil]); first | done | rfl | (simp only [List.length_drop, List.length_take]; rfl)) ?_; (with_reducible refine (accountingref25_large.calls ((rd_T49 l0 x9_2).f0) 1000000000000 false _ A17.out).mono ?_); rintro e w' ⟨rfl, ⟨nd, rfl⟩⟩; refine ⟨_, rfl, ?_⟩; have p104 : 0 ≤ (x9_2 : Int) := of_decide_eq_true (by first | (with_reducible assumption) | assumption); have q104 : x9_2 < (l0.length : Int) := of_decide_eq_true (by first | (with_reducible assumption) | assumption); obtain ⟨ad104, e104, hx104_0, hx104_1⟩ := at_T49 HR0.out x9_2 p104 q104; obtain rfl : ad102 = ad104 := (by injection e104); replace hx104_0 := (HB.out.cell (World.block_lt_of_cell? w _ hx104_0)).trans hx104_0; replace hx104_1 := (HB.out.cell (World.block_lt_of_cell? w _ hx104_1)).trans hx104_1; replace p104 := eq_true p104; replace q104 := eq_true q104; have p105 : 0 ≤ (x9_2 : Int) := of_decide_eq_true (by first | (with_reducible assumption) | assumption); have q105 : x9_2 < (l0.length : Int) := of_decide_eq_true (by first | (with_reducible assumption) | assumption); obtain ⟨ad105, e105, hx105_0, hx105_1⟩ := at_T49 HR0.out x9_2 p105 q105; obtain rfl : ad102 = ad105 := (by injection e105); replace hx105_0 := (HB.out.cell (World.block_lt_of_cell? w _ hx105_0)).trans hx105_0; replace hx105_1 := (HB.out.cell (World.block_lt_of_cell? w _ hx105_1)).trans hx105_1; replace p105 := eq_true p105; replace q105 := eq_true q105) | (go_at_call 63; (with_reducible refine (accountingref25_find.calls k2 _ _ l1 ((rd_T49 l0 x9_2).f1) t106 _ ?side1 ?side2 A20.out).mono ?_); (case side1 => repeat (first | exact (Kd.C_below HR1.out (by repeat (first | (with_reducible first | exact HB.out | apply below_alloc | apply pw_below_drewN | apply below_drew1) | exact HB.out))) | (with_reducible refine Kd.C_alloc ?_ _) | (with_reducible refine Kd.C_drewN ?_ _) | (with_reducible refine Kd.C_drew ?_))); (case side2 => exact HC1.out); rintro e w' ⟨rfl, ⟨nd, rfl⟩⟩))
             go_roundg k2
             case measure => have := HJ4.out; have := HK2.out; omega
             case rel => exact ⟨(wrap64 (x9_2 + 1)), (by first | rfl | (simp; done) | (simp [*]; done)), H', ⟨by have := HJ4.out; have := HK2.out; omega⟩, ⟨by repeat (first | (with_reducible first | exact HB.out | apply below_alloc | apply pw_below_drewN | apply below_drew1) | exact HB.out)⟩⟩
         ·rw [if_neg c16] at H
          exact absurd H (by simp)
        ·rw [if_neg c15] at H
         have c15b0 : decide (x9_2 < (l0.length : Int)) = false := decide_eq_false c15
         clear c15
         obtain rfl := Option.some.inj H
         go_wp2
         go_ret
         exact ⟨by first | rfl | (simp [errW_none, errW_some] <;> rfl) | (simp [*, errW_none, errW_some] <;> rfl), by repeat (first | (with_reducible first | exact HB.out | apply below_alloc | apply pw_below_drewN | apply below_drew1) | exact HB.out)⟩
    ·replace c11 := Bool.eq_false_iff.mpr c11
     subst c11
     have H1 : (some 2) = some r := by rw [if_neg (show ¬ (false = true) by decide)] at H; exact H
     clear H
     have H := H1
     clear H1
     obtain rfl := Option.some.inj H
     go_wp2_with (first | ((with_reducible refine gate_callee (f := 16) rfl ?_); refine goesL_ (some 25) rfl rfl Try.func16 (by kernel_rfl) rfl #[.slice A1 l1.length c1] rfl (by (try simp only [List.map_toArray, List.map_cons, List.map_nil]); first | done | rfl | (simp only [List.length_drop, List.length_take]; rfl)) ?_; (with_reducible refine (accountingref25_Codes.calls kj4 _ _ l1 false _ ?side1 ?side2 A10.out).mono ?_); (case side1 => repeat (first | exact (Kd.C_below HR1.out HB.out) | (with_reducible refine Kd.C_alloc ?_ _) | (with_reducible refine Kd.C_drewN ?_ _) | (with_reducible refine Kd.C_drew ?_))); (case side2 => exact HC1.out); rintro e w22 ⟨rfl, hb⟩; refine ⟨_, rfl, ?_⟩; have n0_ := Aside0.mk (below_step (by repeat (first | (with_reducible first | exact HB.out | apply below_alloc | apply pw_below_drewN | apply below_drew1) | exact HB.out)) hb); clear HB; have HB := n0_; clear n0_; (try clear hb); (try clear hb2); (try clear hk); (try clear hi)))
     go_ret
     exact ⟨by first | rfl | (simp [errW_none, errW_some] <;> rfl) | (simp [*, errW_none, errW_some] <;> rfl), by repeat (first | (with_reducible first | exact HB.out | apply below_alloc | apply pw_below_drewN | apply below_drew1) | exact HB.out)⟩
end Go.Proofs.Ytgjpegmhlnabpaa.M
end
section
namespace Go.Proofs.Ytgjpegmhlnabpaa.M
open Go.RowKit Go.Proofs.YtgjpegmhlnabpaaW.PrintWords Go.Proofs.YtgjpegmhlnabpaaW.PrintLast Dv
set_option linter.unusedVariables false
set_option linter.unusedSimpArgs false
abbrev rdX (l : List TxLine) (i : Int) : TxLine := rd_T49 l i
def askL (codes : List TC) : List TxLine → Int
  | [] => 0
  | x :: r => if x.f0 > 1000000000000 ∨ x.f0 < -1000000000000 then 4 else if x.f1.toList = ([] : List UInt8) then askL codes r else if known codes x.f1 = true then askL codes r else 28
def askv (l : List TxLine) (codes : List TC) (way mode : Int) : Int :=
  if way < 1 ∨ way > 3 ∨ mode < 1 ∨ mode > 5 then 10 else if codesv codes = true then (if (l.length : Int) > 200 then 9 else askL codes l) else 2
theorem tax_ask.go {codes : List TC} (h : CodesOk codes) (l : List TxLine) (hl : l.length ≤ 200) : ∀ n i, i + n = l.length → Ev (fun k => tax_ask.l0 k codes l (l.length : Int) (i : Int)) (askL codes (l.drop i))
  | 0, i, hi => by
    refine Ev.succ ?_
    simp only [tax_ask.l0, if_neg (show ¬ (i : Int) < (l.length : Int) by omega)]
    rw [List.drop_eq_nil_of_le (by omega)]
    exact Ev.const _
  | n + 1, i, hi => by
    refine Ev.succ ?_
    simp only [tax_ask.l0, if_pos (show (i : Int) < (l.length : Int) by omega), if_pos (show (0 : Int) ≤ (i : Int) by omega)]
    rw [drop_rd (l := l) (j := i) (by omega)]
    have st := tax_ask.go h l hl n (i + 1) (by omega)
    rw [w64 (n := (i : Int) + 1) (by omega) (by omega), show (i : Int) + 1 = ((i + 1 : Nat) : Int) by omega]
    rw [show tax_far.f (rdX l (i : Int)).f0 1000000000000 = some _ from tax_far.eq (by omega) (by omega)]
    simp only [Option.bind_some, decide_eq_true_eq, askL]
    by_cases c : (rdX l (i : Int)).f0 > 1000000000000 ∨ (rdX l (i : Int)).f0 < -1000000000000
    · simp only [if_pos c]; exact Ev.const _
    · simp only [if_neg c]
      obtain ⟨q, hq, _, _, q3⟩ := tax_code.F h (rdX l (i : Int)).f1
      refine Ev.bind hq ?_
      rw [q3]
      by_cases e : (rdX l (i : Int)).f1.toList = ([] : List UInt8)
      · simp only [if_pos e]
        by_cases g : known codes (rdX l (i : Int)).f1 = true
        · simp only [if_pos g]; exact st
        · simp only [if_neg g]; exact st
      · simp only [if_neg e]
        by_cases g : known codes (rdX l (i : Int)).f1 = true
        · simp only [if_pos g]; exact st
        · simp only [if_neg g]; exact Ev.const _
theorem tax_ask.j0_eq {codes : List TC} (ho : TCok codes) (l : List TxLine) (b : Bool) : Ev (fun k => tax_ask.j0 k l codes b) (if b = true then 10 else if codesv codes = true then (if (l.length : Int) > 200 then 9 else askL codes l) else 2) := by
  refine Ev.succ ?_
  cases b with
  | true => simp only [tax_ask.j0, if_true]; exact Ev.const _
  | false =>
    simp only [tax_ask.j0, Bool.false_eq_true, if_false]
    refine Ev.bind (tax_Codes.eq ho) ?_
    by_cases c : codesv codes = true
    · simp only [if_pos c]
      by_cases e : (l.length : Int) > 200
      · simp only [if_pos e]; exact Ev.const _
      · simp only [if_neg e]
        exact tax_ask.go (codesOk ho c) l (by omega) l.length 0 (by omega)
    · simp only [if_neg c]; exact Ev.const _
theorem tax_ask.eq {codes : List TC} (ho : TCok codes) (l : List TxLine) (way mode : Int) : Ev (fun k => tax_ask.f k l codes way mode) (askv l codes way mode) := by
  unfold tax_ask.f askv
  by_cases c1 : way < 1
  · simp only [if_pos c1, if_pos (show way < 1 ∨ way > 3 ∨ mode < 1 ∨ mode > 5 from Or.inl c1)]
    exact tax_ask.j0_eq ho l true
  simp only [if_neg c1]
  by_cases c2 : way > 3
  · simp only [if_pos c2, if_pos (show way < 1 ∨ way > 3 ∨ mode < 1 ∨ mode > 5 from Or.inr (Or.inl c2))]
    exact tax_ask.j0_eq ho l true
  simp only [if_neg c2]
  by_cases c3 : mode < 1
  · simp only [if_pos c3, if_pos (show way < 1 ∨ way > 3 ∨ mode < 1 ∨ mode > 5 from Or.inr (Or.inr (Or.inl c3)))]
    exact tax_ask.j0_eq ho l true
  simp only [if_neg c3]
  by_cases c4 : mode > 5
  · simp only [decide_eq_true c4, if_pos (show way < 1 ∨ way > 3 ∨ mode < 1 ∨ mode > 5 from Or.inr (Or.inr (Or.inr c4)))]
    exact tax_ask.j0_eq ho l true
  · simp only [decide_eq_false c4, if_neg (show ¬ (way < 1 ∨ way > 3 ∨ mode < 1 ∨ mode > 5) by omega)]
    exact tax_ask.j0_eq ho l false
theorem accountingref25_check.go {codes : List TC} (h : CodesOk codes) (l : List TxLine) (hl : l.length ≤ 200) : ∀ n i, i + n = l.length → Ev (fun k => accountingref25_check.l0 k l codes (i : Int)) (askL codes (l.drop i))
  | 0, i, hi => by
    refine Ev.succ ?_
    simp only [accountingref25_check.l0, if_neg (show ¬ (i : Int) < (l.length : Int) by omega)]
    rw [List.drop_eq_nil_of_le (by omega)]
    exact Ev.const _
  | n + 1, i, hi => by
    refine Ev.succ ?_
    simp only [accountingref25_check.l0, if_pos (show (i : Int) < (l.length : Int) by omega), if_pos (show (0 : Int) ≤ (i : Int) by omega)]
    rw [drop_rd (l := l) (j := i) (by omega)]
    have st := accountingref25_check.go h l hl n (i + 1) (by omega)
    rw [w64 (n := (i : Int) + 1) (by omega) (by omega), show (i : Int) + 1 = ((i + 1 : Nat) : Int) by omega]
    rw [show accountingref25_large.f (rdX l (i : Int)).f0 1000000000000 = some _ from accountingref25_large.eq (by omega) (by omega)]
    simp only [Option.bind_some, decide_eq_true_eq, askL]
    by_cases c : (rdX l (i : Int)).f0 > 1000000000000 ∨ (rdX l (i : Int)).f0 < -1000000000000
    · simp only [if_pos c]; exact Ev.const _
    · simp only [if_neg c]
      by_cases e : (rdX l (i : Int)).f1.toList = ([] : List UInt8)
      · simp only [if_pos e]; exact st
      · simp only [if_neg e]
        unfold accountingref25_find.f
        rcases ref_find.go h.len (rdX l (i : Int)).f1 codes.length 0 (by omega) with ⟨r, r0, ⟨j, _, j1, j2⟩, hr⟩ | ⟨hn, hr⟩
        · refine Ev.bind hr ?_
          simp only [if_neg (show ¬ r < 0 by omega), if_pos ((known_iff codes _).2 ⟨j, j1, j2⟩)]
          exact st
        · refine Ev.bind hr ?_
          have hk : ¬ known codes (rdX l (i : Int)).f1 = true := fun hk => by
            obtain ⟨j, j1, j2⟩ := (known_iff codes _).1 hk
            exact hn j (by omega) j1 j2
          simp only [if_pos (show (-1 : Int) < 0 by omega), if_neg hk]
          exact Ev.const _
theorem accountingref25_check.j0_eq {codes : List TC} (ho : TCok codes) (l : List TxLine) (b : Bool) : Ev (fun k => accountingref25_check.j0 k l codes b) (if b = true then 10 else if codesv codes = true then (if (l.length : Int) > 200 then 9 else askL codes l) else 2) := by
  refine Ev.succ ?_
  cases b with
  | true => simp only [accountingref25_check.j0, if_true]; exact Ev.const _
  | false =>
    simp only [accountingref25_check.j0, Bool.false_eq_true, if_false]
    refine Ev.bind (accountingref25_Codes.eq ho) ?_
    by_cases c : codesv codes = true
    · simp only [if_pos c]
      by_cases e : (l.length : Int) > 200
      · simp only [if_pos e]; exact Ev.const _
      · simp only [if_neg e]
        exact accountingref25_check.go (codesOk ho c) l (by omega) l.length 0 (by omega)
    · simp only [if_neg c]; exact Ev.const _
theorem accountingref25_check.eq {codes : List TC} (ho : TCok codes) (l : List TxLine) (way mode : Int) : Ev (fun k => accountingref25_check.f k l codes way mode) (askv l codes way mode) := by
  unfold accountingref25_check.f askv
  by_cases c1 : way < 1
  · simp only [if_pos c1, if_pos (show way < 1 ∨ way > 3 ∨ mode < 1 ∨ mode > 5 from Or.inl c1)]
    exact accountingref25_check.j0_eq ho l true
  simp only [if_neg c1]
  by_cases c2 : way > 3
  · simp only [if_pos c2, if_pos (show way < 1 ∨ way > 3 ∨ mode < 1 ∨ mode > 5 from Or.inr (Or.inl c2))]
    exact accountingref25_check.j0_eq ho l true
  simp only [if_neg c2]
  by_cases c3 : mode < 1
  · simp only [if_pos c3, if_pos (show way < 1 ∨ way > 3 ∨ mode < 1 ∨ mode > 5 from Or.inr (Or.inr (Or.inl c3)))]
    exact accountingref25_check.j0_eq ho l true
  simp only [if_neg c3]
  by_cases c4 : mode > 5
  · simp only [decide_eq_true c4, if_pos (show way < 1 ∨ way > 3 ∨ mode < 1 ∨ mode > 5 from Or.inr (Or.inr (Or.inr c4)))]
    exact accountingref25_check.j0_eq ho l true
  · simp only [decide_eq_false c4, if_neg (show ¬ (way < 1 ∨ way > 3 ∨ mode < 1 ∨ mode > 5) by omega)]
    exact accountingref25_check.j0_eq ho l false
theorem askL_ok {codes : List TC} : ∀ {l : List TxLine}, askL codes l = 0 → ∀ x ∈ l, (-1000000000000 ≤ x.f0 ∧ x.f0 ≤ 1000000000000) ∧ (x.f1.toList ≠ ([] : List UInt8) → known codes x.f1 = true)
  | [], _, x, hx => by cases hx
  | y :: r, h, x, hx => by
    unfold askL at h
    split at h
    · omega
    · rename_i c
      split at h
      · rename_i e
        rcases List.mem_cons.1 hx with rfl | hx
        · exact ⟨by omega, fun k => absurd e k⟩
        · exact askL_ok h x hx
      · split at h
        · rename_i g
          rcases List.mem_cons.1 hx with rfl | hx
          · exact ⟨by omega, fun _ => g⟩
          · exact askL_ok h x hx
        · omega
theorem askv_ok {l : List TxLine} {codes : List TC} {way mode : Int} (ho : TCok codes) (h : askv l codes way mode = 0) : (1 ≤ way ∧ way ≤ 3 ∧ 1 ≤ mode ∧ mode ≤ 5) ∧ CodesOk codes ∧ l.length ≤ 200 ∧ askL codes l = 0 := by
  unfold askv at h
  split at h
  · omega
  · split at h
    · rename_i h1 h2
      split at h
      · omega
      · exact ⟨by omega, codesOk ho h2, by omega, h⟩
    · omega
end Go.Proofs.Ytgjpegmhlnabpaa.M
end
section
namespace Go.Proofs.Ytgjpegmhlnabpaa.M
open Go.RowKit Go.Proofs.YtgjpegmhlnabpaaW.PrintWords Go.Proofs.YtgjpegmhlnabpaaW.PrintLast Dv
set_option linter.unusedVariables false
set_option linter.unusedSimpArgs false
def has (m : ByteArray) (l : List TxLine) : Bool := l.any (fun x => decide (x.f1 = m))
def addv (f : TxLine → Int) (m : ByteArray) : List TxLine → Int → Int
  | [], a => a
  | x :: r, a => if x.f1 = m then addv f m r (wrap64 (a + f x)) else addv f m r a
theorem addv_none (f : TxLine → Int) (m : ByteArray) : ∀ (l : List TxLine) (a : Int), has m l = false → addv f m l a = a
  | [], a, _ => rfl
  | x :: r, a, h => by
    unfold has at h
    simp only [List.any_cons, Bool.or_eq_false_iff, decide_eq_false_iff_not] at h
    unfold addv
    rw [if_neg h.1]
    exact addv_none f m r a h.2
theorem wrap_in (a : Int) : inI (wrap64 a) := by unfold inI wrap64; omega
theorem addv_in (f : TxLine → Int) (m : ByteArray) : ∀ (l : List TxLine) (a : Int), inI a → inI (addv f m l a)
  | [], a, h => h
  | x :: r, a, h => by
    unfold addv
    split
    · exact addv_in f m r _ (wrap_in _)
    · exact addv_in f m r _ h
theorem aget_fold (way mode : Int) (codes : List TC) (m : ByteArray) (hm : m.toList ≠ ([] : List UInt8)) : ∀ (l : List TxLine) (L : List (ByteArray × TxSum)),
    aget (l.foldl (stepL way mode codes) L) m = if has m l = true then some ⟨m, addv (fun x => (lp way mode codes x).1) m l ((aget L m).getD txZero).f1, addv (fun x => (lp way mode codes x).2) m l ((aget L m).getD txZero).f2⟩ else aget L m
  | [], L => by simp [has]
  | x :: r, L => by
    rw [List.foldl_cons, aget_fold way mode codes m hm r]
    by_cases c : x.f1 = m
    · have hx : ¬ x.f1.toList = ([] : List UInt8) := by rw [c]; exact hm
      have e : aget (stepL way mode codes L x) m = some ⟨m, wrap64 (((aget L m).getD txZero).f1 + (lp way mode codes x).1), wrap64 (((aget L m).getD txZero).f2 + (lp way mode codes x).2)⟩ := by
        unfold stepL
        rw [if_neg hx, aget_aput, if_pos c, c]
      have h1 : has m (x :: r) = true := by simp [has, c]
      rw [if_pos h1, e]
      simp only [Option.getD_some, addv, if_pos c]
      by_cases h2 : has m r = true
      · rw [if_pos h2]
      · rw [if_neg h2, addv_none _ _ _ _ (Bool.eq_false_iff.2 h2), addv_none _ _ _ _ (Bool.eq_false_iff.2 h2)]
    · have e : aget (stepL way mode codes L x) m = aget L m := by
        unfold stepL
        split
        · rfl
        · rw [aget_aput, if_neg c]
      have h1 : has m (x :: r) = has m r := by simp [has, c]
      rw [h1, e]
      simp only [addv, if_neg c]
theorem keys_fold (way mode : Int) (codes : List TC) : ∀ (l : List TxLine) (L : List (ByteArray × TxSum)), (L.map (·.1)).Nodup → (∀ m ∈ L.map (·.1), m.toList ≠ ([] : List UInt8)) → ((l.foldl (stepL way mode codes) L).map (·.1)).Nodup ∧ (∀ m ∈ (l.foldl (stepL way mode codes) L).map (·.1), m.toList ≠ ([] : List UInt8))
  | [], L, h1, h2 => ⟨h1, h2⟩
  | x :: r, L, h1, h2 => by
    rw [List.foldl_cons]
    refine keys_fold way mode codes r _ ?_ ?_
    · unfold stepL
      split
      · exact h1
      · rw [aput_keys]
        split
        · exact h1
        · rename_i e
          exact List.nodup_append.2 ⟨h1, by simp, fun a ha b hb => by
            rw [List.mem_singleton] at hb
            rintro rfl
            exact e (hb ▸ ha)⟩
    · unfold stepL
      split
      · exact h2
      · rename_i c
        rw [aput_keys]
        split
        · exact h2
        · intro m hm
          rcases List.mem_append.1 hm with hm | hm
          · exact h2 m hm
          · rw [List.mem_singleton] at hm
            rw [hm]; exact c
theorem keys_len (way mode : Int) (codes : List TC) : ∀ (l : List TxLine) (L : List (ByteArray × TxSum)), (l.foldl (stepL way mode codes) L).length ≤ L.length + l.length
  | [], L => by simp
  | x :: r, L => by
    rw [List.foldl_cons]
    have h := keys_len way mode codes r (stepL way mode codes L x)
    have e : (stepL way mode codes L x).length ≤ L.length + 1 := by
      unfold stepL
      split
      · omega
      · have := congrArg List.length (aput_keys x.f1 (⟨x.f1, wrap64 (((aget L x.f1).getD txZero).f1 + (lp way mode codes x).1), wrap64 (((aget L x.f1).getD txZero).f2 + (lp way mode codes x).2)⟩ : TxSum) L)
        rw [List.length_map] at this
        rw [this]
        split <;> simp
    simp only [List.length_cons]
    omega
def occ (codes : List TC) (l : List TxLine) : List TC := codes.filter (fun c => has c.f0 l)
theorem codes_lt {codes : List TC} (h : CodesOk codes) : codes.Pairwise (fun a b => a.f0.toList < b.f0.toList) := by
  rw [List.pairwise_iff_getElem]
  intro i j hi hj hij
  have := h.lt' (c := (i : Int)) (d := (j : Int)) (by omega) (by omega) (by omega)
  rw [rdC_get hi, rdC_get hj] at this
  exact this
theorem codes_ne {codes : List TC} (h : CodesOk codes) : ∀ c ∈ codes, c.f0.toList ≠ ([] : List UInt8) := by
  intro c hc e
  obtain ⟨j, hj, rfl⟩ := List.mem_iff_getElem.1 hc
  have := (h.one j hj).1
  rw [rdC_get hj] at this
  unfold codev at this
  simp only [Bool.and_eq_true, decide_eq_true_eq] at this
  have h0 := (size_nil codes[j].f0).1 e
  omega
theorem srt_sorted {xs : List ByteArray} (h : xs.Pairwise (fun a b => a.toList < b.toList)) : srt xs = xs := by
  unfold srt
  rw [List.mergeSort_of_pairwise]
  · rw [List.map_map]
    conv => rhs; rw [← List.map_id xs]
    congr 1
  · rw [List.pairwise_map]
    refine h.imp ?_
    intro a b hab
    rw [ByteArray.toList_eq, ByteArray.toList_eq] at hab
    exact decide_eq_true (List.le_of_lt hab)
theorem has_iff (m : ByteArray) (l : List TxLine) : has m l = true ↔ ∃ x ∈ l, x.f1 = m := by simp [has]
theorem names_eq {codes : List TC} (h : CodesOk codes) {l : List TxLine} (hk : ∀ x ∈ l, x.f1.toList ≠ ([] : List UInt8) → known codes x.f1 = true) (way mode : Int) :
    srt ((l.foldl (stepL way mode codes) []).map (·.1)) = (occ codes l).map (·.f0) := by
  have K := keys_fold way mode codes l [] (by simp) (by simp)
  have hlt : ((occ codes l).map (·.f0)).Pairwise (fun a b => a.toList < b.toList) := by
    rw [List.pairwise_map]
    exact (codes_lt h).filter _
  have hnd : ((occ codes l).map (·.f0)).Nodup := hlt.imp (fun hab e => by rw [e] at hab; exact List.lt_irrefl _ hab)
  have hp : ((l.foldl (stepL way mode codes) []).map (·.1)).Perm ((occ codes l).map (·.f0)) := by
    rw [List.perm_ext_iff_of_nodup K.1 hnd]
    intro m
    constructor
    · intro hm
      have hne := K.2 m hm
      rw [mem_keys, aget_fold way mode codes m hne] at hm
      by_cases c : has m l = true
      · obtain ⟨x, hx, rfl⟩ := (has_iff m l).1 c
        obtain ⟨j, hj, e⟩ := (known_iff codes _).1 (hk x hx hne)
        rw [rdC_get hj] at e
        refine List.mem_map.2 ⟨codes[j], List.mem_filter.2 ⟨List.getElem_mem hj, ?_⟩, e⟩
        rw [e]; exact c
      · rw [if_neg c] at hm
        simp [aget] at hm
    · intro hm
      obtain ⟨c, hc, rfl⟩ := List.mem_map.1 hm
      obtain ⟨hc1, hc2⟩ := List.mem_filter.1 hc
      have hne := codes_ne h c hc1
      rw [mem_keys, aget_fold way mode codes c.f0 hne, if_pos hc2]
      rfl
  rw [srt_perm hp, srt_sorted hlt]
def sumL (way mode : Int) (codes : List TC) (L : List (ByteArray × TxSum)) (m : ByteArray) : TxSum :=
  if way = 2 then ⟨((aget L m).getD txZero).f0, ((aget L m).getD txZero).f1, (onv ((aget L m).getD txZero).f1 (fracOf codes m).1 (fracOf codes m).2 mode).1⟩ else (aget L m).getD txZero
theorem ofS.eq {codes : List TC} (h : CodesOk codes) (way mode : Int) (L : List (ByteArray × TxSum)) : ∀ (ms : List ByteArray) (s : List TxSum), s.length + ms.length ≤ 1000000 → (∀ m ∈ ms, inI ((aget L m).getD txZero).f1) → Ev (fun k => ofS k way mode codes L ms s) (s ++ ms.map (sumL way mode codes L))
  | [], s, _, _ => by
    simp only [List.map_nil, List.append_nil]
    exact Ev.const _
  | m :: r, s, hl, hi => by
    have hl2 : s.length + (r.length + 1) ≤ 1000000 := hl
    have hr : ∀ y ∈ r, inI ((aget L y).getD txZero).f1 := fun y hy => hi y (by simp [hy])
    simp only [ofS, if_pos (show s.length < 4398046511104 by omega), List.map_cons]
    have st := ofS.eq h way mode L r (s ++ [sumL way mode codes L m]) (by simp; omega) hr
    rw [List.append_assoc, List.singleton_append] at st
    by_cases c : way = 2
    · simp only [if_pos c]
      obtain ⟨q, hq, q1, q2, _⟩ := tax_code.F h m
      refine Ev.bind hq ?_
      rw [q1, q2]
      have hin := fracOf_in h m
      refine Ev.bind (tax_On.eq (hi m (by simp)) hin.1 hin.2) ?_
      have e : sumL way mode codes L m = ⟨((aget L m).getD txZero).f0, ((aget L m).getD txZero).f1, (onv ((aget L m).getD txZero).f1 (fracOf codes m).1 (fracOf codes m).2 mode).1⟩ := by unfold sumL; rw [if_pos c]
      rw [e] at st ⊢
      exact st
    · simp only [if_neg c]
      have e : sumL way mode codes L m = (aget L m).getD txZero := by unfold sumL; rw [if_neg c]
      rw [e] at st ⊢
      exact st
def sumC (way mode : Int) (codes : List TC) (l : List TxLine) (c : TC) : TxSum :=
  ⟨c.f0, addv (fun x => (lp way mode codes x).1) c.f0 l 0, if way = 2 then (onv (addv (fun x => (lp way mode codes x).1) c.f0 l 0) (fracOf codes c.f0).1 (fracOf codes c.f0).2 mode).1 else addv (fun x => (lp way mode codes x).2) c.f0 l 0⟩
def ofv (l : List TxLine) (codes : List TC) (way mode : Int) : List Int × List TxSum × Int :=
  if askv l codes way mode = 0 then (l.map (netv way mode codes), (occ codes l).map (sumC way mode codes l), 0) else ([], [], askv l codes way mode)
theorem tax_Of.eq {codes : List TC} (ho : TCok codes) (l : List TxLine) (hl : ∀ x ∈ l, inI x.f0) (way mode : Int) : Ev (fun k => tax_Of.f k l codes way mode) (ofv l codes way mode) := by
  unfold tax_Of.f ofv
  refine Ev.bind (tax_ask.eq ho l way mode) ?_
  by_cases c : askv l codes way mode = 0
  · obtain ⟨hw, h, hn, hL⟩ := askv_ok ho c
    have hk : ∀ x ∈ l, x.f1.toList ≠ ([] : List UInt8) → known codes x.f1 = true := fun x hx => (askL_ok hL x hx).2
    simp only [if_pos c, if_pos (show l.length ≤ 1000000 by omega)]
    have h1 := ofL.eq h way mode l [] [] hl (by simp; omega)
    rw [List.nil_append] at h1
    refine Ev.bind h1 ?_
    have kl := keys_len way mode codes l []
    simp only [List.length_nil, Nat.zero_add] at kl
    simp only [if_pos (show (l.foldl (stepL way mode codes) []).length < 8796093022208 by omega)]
    rw [names_eq h hk way mode]
    have hsum : ∀ c ∈ occ codes l, sumL way mode codes (l.foldl (stepL way mode codes) []) c.f0 = sumC way mode codes l c ∧ inI ((aget (l.foldl (stepL way mode codes) []) c.f0).getD txZero).f1 := by
      intro c hc
      obtain ⟨hc1, hc2⟩ := List.mem_filter.1 hc
      have hne := codes_ne h c hc1
      have e := aget_fold way mode codes c.f0 hne l []
      rw [if_pos hc2] at e
      have z1 : ((aget ([] : List (ByteArray × TxSum)) c.f0).getD txZero).f1 = 0 := rfl
      have z2 : ((aget ([] : List (ByteArray × TxSum)) c.f0).getD txZero).f2 = 0 := rfl
      rw [z1, z2] at e
      unfold sumL sumC
      rw [e]
      simp only [Option.getD_some]
      refine ⟨?_, addv_in _ _ _ _ (by unfold inI; omega)⟩
      split <;> rfl
    have ol : (occ codes l).length ≤ codes.length := List.length_filter_le _ _
    have hcl := h.len
    have h2 := ofS.eq h way mode (l.foldl (stepL way mode codes) []) ((occ codes l).map (·.f0)) [] (by simp; omega) (fun m hm => by
      obtain ⟨c, hc, rfl⟩ := List.mem_map.1 hm
      exact (hsum c hc).2)
    rw [List.nil_append, List.map_map] at h2
    have e2 : (occ codes l).map (sumL way mode codes (l.foldl (stepL way mode codes) []) ∘ (·.f0)) = (occ codes l).map (sumC way mode codes l) := List.map_congr_left (fun c hc => (hsum c hc).1)
    rw [e2] at h2
    exact Ev.bind h2 (Ev.const _)
  · simp only [if_neg c]
    exact Ev.const _
end Go.Proofs.Ytgjpegmhlnabpaa.M
end
section
namespace Go.Proofs.Ytgjpegmhlnabpaa.M
open Go.RowKit Go.Proofs.YtgjpegmhlnabpaaW.PrintWords Go.Proofs.YtgjpegmhlnabpaaW.PrintLast Dv
set_option linter.unusedVariables false
set_option linter.unusedSimpArgs false
def sm {α : Type} (f : α → Int) : List α → Int
  | [] => 0
  | x :: r => f x + sm f r
theorem sm_cons {α : Type} (f : α → Int) (x : α) (r : List α) : sm f (x :: r) = f x + sm f r := rfl
theorem sm_congr {α : Type} {f g : α → Int} : ∀ {l : List α}, (∀ x ∈ l, f x = g x) → sm f l = sm g l
  | [], _ => rfl
  | x :: r, h => by
    unfold sm
    rw [h x (by simp), sm_congr (fun y hy => h y (by simp [hy]))]
theorem sm_swap {α β : Type} (g : α → β → Int) : ∀ (A : List α) (B : List β), sm (fun a => sm (fun b => g a b) B) A = sm (fun b => sm (fun a => g a b) A) B
  | [], B => by
    induction B with
    | nil => rfl
    | cons b B ih => simp only [sm] at ih ⊢; omega
  | a :: A, B => by
    have h := sm_swap g A B
    have hb : ∀ B : List β, sm (fun b => sm (fun a => g a b) (a :: A)) B = sm (fun b => g a b) B + sm (fun b => sm (fun a => g a b) A) B := by
      intro B
      induction B with
      | nil => rfl
      | cons b B ih => simp only [sm] at ih ⊢; omega
    rw [hb B, ← h]
    rfl
theorem sm_map {α β : Type} (f : β → Int) (g : α → β) : ∀ l : List α, sm f (l.map g) = sm (fun x => f (g x)) l
  | [] => rfl
  | x :: r => by simp only [List.map_cons, sm, sm_map f g r]
theorem sm_filter {α : Type} (f : α → Int) (p : α → Bool) : ∀ l : List α, (∀ x ∈ l, p x = false → f x = 0) → sm f (l.filter p) = sm f l
  | [], _ => rfl
  | x :: r, h => by
    have ih := sm_filter f p r (fun y hy => h y (by simp [hy]))
    rw [List.filter_cons]
    by_cases c : p x = true
    · rw [if_pos c]; simp only [sm, ih]
    · rw [if_neg c]
      have := h x (by simp) (Bool.eq_false_iff.2 c)
      simp only [sm, ih, this]; omega
theorem wrap_zero : wrap64 0 = 0 := w64 (by omega) (by omega)
theorem wrap_add (a b : Int) : wrap64 (wrap64 a + b) = wrap64 (a + b) := by unfold wrap64; omega
theorem wrap_idem {a : Int} (h : inI a) : wrap64 a = a := by unfold inI at h; exact w64 (by omega) (by omega)
theorem addv_sm (f : TxLine → Int) (m : ByteArray) : ∀ (l : List TxLine) (a : Int), addv f m l (wrap64 a) = wrap64 (a + sm (fun x => if x.f1 = m then f x else 0) l)
  | [], a => by simp [addv, sm]
  | x :: r, a => by
    unfold addv sm
    split
    · rename_i c
      rw [wrap_add, addv_sm f m r]
      congr 1
      omega
    · rw [addv_sm f m r]
      congr 1
      omega
theorem sm_wrap {α : Type} (g : α → Int) : ∀ (l : List α) (s : Int), wrap64 (s - sm (fun c => wrap64 (g c)) l) = wrap64 (s - sm g l)
  | [], s => rfl
  | x :: r, s => by
    have h := sm_wrap g r (s - g x)
    unfold sm
    have e1 : wrap64 (s - (wrap64 (g x) + sm (fun c => wrap64 (g c)) r)) = wrap64 (s - g x - sm (fun c => wrap64 (g c)) r) := by
      generalize sm (fun c => wrap64 (g c)) r = u
      unfold wrap64; omega
    rw [e1, h]
    congr 1
    omega
theorem sm_known {codes : List TC} (m : ByteArray) (t : Int) : codes.Pairwise (fun a b => a.f0.toList < b.f0.toList) → sm (fun c : TC => if m = c.f0 then t else 0) codes = if known codes m = true then t else 0 := by
  intro h
  induction codes with
  | nil => rfl
  | cons c r ih =>
    rw [List.pairwise_cons] at h
    have ih2 := ih h.2
    unfold sm
    by_cases e : m = c.f0
    · have hk : known r m = false := by
        rw [Bool.eq_false_iff]
        intro k
        unfold known at k
        obtain ⟨d, hd, hd2⟩ := List.any_eq_true.1 k
        have := h.1 d hd
        simp only [decide_eq_true_eq] at hd2
        rw [hd2, e] at this
        exact List.lt_irrefl _ this
      have hk2 : known (c :: r) m = true := by simp [known, e]
      rw [ih2, if_pos e, hk, if_pos hk2]
      simp
    · have hk2 : known (c :: r) m = known r m := by
        have e2 : ¬ c.f0 = m := fun k => e k.symm
        simp [known, e2]
      rw [ih2, if_neg e, hk2]
      omega
theorem rd_map (g : TxLine → Int) {l : List TxLine} {i : Nat} (h : i < l.length) : rd (l.map g) (i : Int) = g (rdX l (i : Int)) := by
  have e : rdX l (i : Int) = l[i] := by show l.getD (i : Int).toNat _ = l[i]; simp [h]
  rw [e]
  simp [rd, h]
end Go.Proofs.Ytgjpegmhlnabpaa.M
end
section
namespace Go.Proofs.Ytgjpegmhlnabpaa.M
open Go.RowKit Go.Proofs.YtgjpegmhlnabpaaW.PrintWords Go.Proofs.YtgjpegmhlnabpaaW.PrintLast Dv
set_option linter.unusedVariables false
set_option linter.unusedSimpArgs false
theorem within.l1 (S : List TxSum) (hS : S.length ≤ 1000) : ∀ n i s, i + n = S.length → wrap64 (s - sm (fun x : TxSum => x.f2) (S.drop i)) = 0 → Ev (fun k => accountinglaw25_TaxWithin.l1 k S (wrap64 s) (i : Int)) true
  | 0, i, s, hi, h => by
    refine Ev.succ ?_
    rw [List.drop_eq_nil_of_le (by omega)] at h
    have h0 : wrap64 s = 0 := by simpa [sm] using h
    simp only [accountinglaw25_TaxWithin.l1, if_neg (show ¬ (i : Int) < (S.length : Int) by omega), if_pos h0]
    exact Ev.bind accountinglaw25_lives.true (Ev.const _)
  | n + 1, i, s, hi, h => by
    refine Ev.succ ?_
    have e : rd_T51 S (i : Int) = S[i] := by show S.getD (i : Int).toNat _ = S[i]; simp [show i < S.length by omega]
    rw [List.drop_eq_getElem_cons (by omega)] at h
    simp only [accountinglaw25_TaxWithin.l1, if_pos (show (i : Int) < (S.length : Int) by omega), if_pos (show (0 : Int) ≤ (i : Int) by omega), e]
    rw [w64 (n := (i : Int) + 1) (by omega) (by omega), show (i : Int) + 1 = ((i + 1 : Nat) : Int) by omega]
    have e2 : wrap64 (wrap64 s - S[i].f2) = wrap64 (s - S[i].f2) := by unfold wrap64; omega
    rw [e2]
    refine within.l1 S hS n (i + 1) (s - S[i].f2) (by omega) ?_
    rw [← h, sm_cons]
    congr 1
    omega
theorem within.l0 (g : TxLine → Int) (l : List TxLine) (S : List TxSum) (hl : l.length ≤ 1000) (hS : S.length ≤ 1000) : ∀ n i s, i + n = l.length → wrap64 (s + sm (fun x : TxLine => x.f0 - g x) (l.drop i) - sm (fun x : TxSum => x.f2) S) = 0 → Ev (fun k => accountinglaw25_TaxWithin.l0 k l (l.map g) S (wrap64 s) (i : Int)) true
  | 0, i, s, hi, h => by
    refine Ev.succ ?_
    rw [List.drop_eq_nil_of_le (by omega)] at h
    simp only [accountinglaw25_TaxWithin.l0, if_neg (show ¬ (i : Int) < (l.length : Int) by omega)]
    refine within.l1 S hS S.length 0 s (by omega) ?_
    rw [← h]
    simp [sm]
  | n + 1, i, s, hi, h => by
    refine Ev.succ ?_
    rw [show l.drop i = rdX l (i : Int) :: l.drop (i + 1) from drop_rd (by omega)] at h
    simp only [accountinglaw25_TaxWithin.l0, if_pos (show (i : Int) < (l.length : Int) by omega), if_pos (show (0 : Int) ≤ (i : Int) by omega), List.length_map, rd_map g (show i < l.length by omega)]
    rw [w64 (n := (i : Int) + 1) (by omega) (by omega), show (i : Int) + 1 = ((i + 1 : Nat) : Int) by omega]
    have e2 : wrap64 (wrap64 (wrap64 s + (rdX l (i : Int)).f0) - g (rdX l (i : Int))) = wrap64 (s + ((rdX l (i : Int)).f0 - g (rdX l (i : Int)))) := by unfold wrap64; omega
    rw [e2]
    refine within.l0 g l S hl hS n (i + 1) _ (by omega) ?_
    rw [← h, sm_cons]
    congr 1
    omega
theorem large_some (l : List TxLine) (codes : List TC) : ∃ b, accountinglaw25_large.f l codes = some b := by
  unfold accountinglaw25_large.f
  split
  · exact ⟨_, rfl⟩
  · split <;> exact ⟨_, rfl⟩
theorem within_line {codes : List TC} (h : CodesOk codes) {mode : Int} (hm : 1 ≤ mode ∧ mode ≤ 5) {x : TxLine} (hx : (-1000000000000 ≤ x.f0 ∧ x.f0 ≤ 1000000000000) ∧ (x.f1.toList ≠ ([] : List UInt8) → known codes x.f1 = true)) :
    x.f0 - netv 3 mode codes x = if known codes x.f1 = true then (lp 3 mode codes x).2 else 0 := by
  unfold netv
  by_cases c : x.f1.toList = ([] : List UInt8)
  · have hk : ¬ known codes x.f1 = true := by
      intro k
      obtain ⟨j, hj, e⟩ := (known_iff codes _).1 k
      rw [rdC_get hj] at e
      exact codes_ne h codes[j] (List.getElem_mem hj) (by rw [e]; exact c)
    rw [if_pos c, if_neg hk]
    omega
  · have hk := hx.2 c
    rw [if_neg c, if_pos hk]
    obtain ⟨j, hj, e⟩ := (known_iff codes _).1 hk
    have hr := (h.one j hj).2
    have hc : chkT x.f0 (fracOf codes x.f1).1 (fracOf codes x.f1).2 mode = 0 := by
      rw [← e, fracOf_at h hj]
      unfold chkT
      rw [if_neg (by omega), if_pos hr, if_neg (by omega)]
    obtain ⟨t, ht, _⟩ := inv_ok hc
    unfold lp partsv
    rw [if_neg (by omega), if_pos rfl, ht]
    show x.f0 - (x.f0 - t) = t
    omega
theorem pure_TaxWithin : accountinglaw25_TaxWithin.Pure := by
  intro l codes mode hl hc hm
  have ho : TCok codes := fun y hy => by
    have h := hc.2 y hy
    exact ⟨⟨by have := h.1; omega, by have := h.2.1; omega⟩, wfb h.2.2.1, wfb h.2.2.2⟩
  have hli : ∀ x ∈ l, inI x.f0 := fun x hx => wfb (hl.2 x hx).1
  refine Ev.out (g := fun k => accountinglaw25_TaxWithin.f k l codes mode) ?_
  unfold accountinglaw25_TaxWithin.f
  obtain ⟨b, hb⟩ := large_some l codes
  rw [hb]
  simp only [Option.bind_some]
  cases b with
  | true => simp only [if_true]; exact Ev.const _
  | false =>
    simp only [Bool.false_eq_true, if_false]
    refine Ev.bind (tax_Of.eq ho l hli 3 mode) ?_
    unfold ofv
    by_cases c : askv l codes 3 mode = 0
    · obtain ⟨hw, h, hn, hL⟩ := askv_ok ho c
      have hcl := h.len
      have ol : (occ codes l).length ≤ codes.length := List.length_filter_le _ _
      simp only [if_pos c, if_true, List.length_map]
      have W := within.l0 (netv 3 mode codes) l ((occ codes l).map (sumC 3 mode codes l)) (by omega) (by rw [List.length_map]; omega) l.length 0 0 (by omega)
      rw [wrap_zero] at W
      refine W ?_
      rw [List.drop_zero, sm_map]
      have e1 : sm (fun x : TxLine => x.f0 - netv 3 mode codes x) l = sm (fun x : TxLine => sm (fun d : TC => if x.f1 = d.f0 then (lp 3 mode codes x).2 else 0) codes) l :=
        sm_congr (fun x hx => by rw [within_line h ⟨by omega, by omega⟩ (askL_ok hL x hx), sm_known x.f1 _ (codes_lt h)])
      have e2 : sm (fun d : TC => (sumC 3 mode codes l d).f2) (occ codes l) = sm (fun d : TC => wrap64 (sm (fun x : TxLine => if x.f1 = d.f0 then (lp 3 mode codes x).2 else 0) l)) codes := by
        have e3 : ∀ d : TC, (sumC 3 mode codes l d).f2 = wrap64 (sm (fun x : TxLine => if x.f1 = d.f0 then (lp 3 mode codes x).2 else 0) l) := by
          intro d
          unfold sumC
          have := addv_sm (fun x => (lp 3 mode codes x).2) d.f0 l 0
          rw [wrap_zero, Int.zero_add] at this
          rw [← this]
          rfl
        rw [← sm_congr (fun d _ => e3 d)]
        unfold occ
        refine sm_filter _ _ _ (fun d _ hd => ?_)
        show addv (fun x => (lp 3 mode codes x).2) d.f0 l 0 = 0
        exact addv_none _ _ _ _ hd
      rw [e1, e2, sm_wrap, Int.zero_add, ← sm_swap (fun (d : TC) (x : TxLine) => if x.f1 = d.f0 then (lp 3 mode codes x).2 else 0) codes l, Int.sub_self]
      exact wrap_zero
    · simp only [if_neg c, List.length_nil]
      simp only [show ((0 : Nat) : Int) = 0 from rfl, if_true]
      exact Ev.bind accountinglaw25_lives.true (Ev.const _)
end Go.Proofs.Ytgjpegmhlnabpaa.M
namespace Go.Proofs.Ytgjpegmhlnabpaa.Pure
theorem TaxWithin : M.accountinglaw25_TaxWithin.Pure := M.pure_TaxWithin
end Go.Proofs.Ytgjpegmhlnabpaa.Pure
end
section
-- Written by mprint.py (a program of this session) over the kit's print.
namespace Go.Proofs.Ytgjpegmhlnabpaa.taxWithin
open Go.ChangeShapes Go.WideShapes Go.ChangeAt Go.RowKit Go.Proofs.Ytgjpegmhlnabpaa.M Go.Proofs.YtgjpegmhlnabpaaW.PrintWords Go.Proofs.YtgjpegmhlnabpaaW.PrintLast
open Go.ChangeMaps (open_string shut_string)
set_option linter.unusedVariables false
theorem own : ownKnob Try.prog.godebug = none := by kernel_rfl
theorem laidOut : laidOutB Try.prog = true := by kernel_rfl
set_option maxRecDepth 100000 in
set_option maxHeartbeats 4000000 in
theorem lifted (os : Os) (started : os.Started) (H : Type) (enc : TypeId × Value → H) :
    ReturnsInHanded {} Try.checked os 8 .any (Rows.taxWithinSpec.pre6 enc Try.prog Try.f8 Rows.taxWithinRow.domain false) (Rows.taxWithinSpec.post enc Try.prog Try.f8 false true false false) := by
  refine returnsInHanded_of_change_sized (C := Try.checked) own started (by kernel_rfl) Try.func8
    (ChangeSpec.witness6 (enc := enc) (C := Try.checked) false ⟨#[], #[.slice none 0 0, .slice none 0 0, .int .i64 0], []⟩ 8 (by kernel_rfl) (by kernel_rfl) (by kernel_rfl) (by kernel_rfl)) ?_
  intro W base args ds gs before hval0 hW hcnd hsz0 _
  have hsz : (DataW.weightsEach Try.prog (Try.f8.params.toList ++ Rows.taxWithinSpec.plain.varTypes Try.prog) (ds ++ gs)).all (· ≤ reachBytes) = true := hsz0
  have hval : ∀ (j : Nat) t v, Try.f8.params[j]? = some t → args[j]? = some v → Value.okWide Try.prog W .any base t v := hval0
  have hW' := hW
  obtain ⟨p, q, hA0, hV, rfl, hfz, hnd⟩ := hW
  have hA : DataW.TrodAll enc Try.prog W 0 (fun _ => true) true Try.f8.params.toList args.toList ds p := hA0
  rw [Try.params8] at hA hval hsz
  obtain ⟨v0, vs0, d0, ds0, p0, q0, hargs, rfl, rfl, h0, r0⟩ := trodAll_cons hA
  obtain ⟨v1, vs1, d1, ds1, p1, q1, rfl, rfl, rfl, h1, r1⟩ := trodAll_cons r0
  obtain ⟨v2, vs2, d2, ds2, p2, q2, rfl, rfl, rfl, h2, r2⟩ := trodAll_cons r1
  obtain ⟨rfl, rfl, rfl⟩ := trodAll_nil r2
  obtain rfl : args = #[v0, v1, v2] := by cases args; simp_all
  obtain ⟨rfl, rfl⟩ := trodVars_none hV
  obtain ⟨a0, len0, cap0, rfl⟩ := okWide_slice Try.underlying37 (hval 0 37 v0 rfl rfl)
  have k0 := h0
  have lt0 : ∀ x ∈ p0, x.block < W.heap.size := by obtain ⟨m, hm⟩ := k0; exact DataW.trod_lt m _ _ _ hm
  obtain ⟨x0, K0, g0⟩ : ∃ x_ : List (S49), (Kd.slice 49 k49).K W x_ [.slice a0 len0 cap0] ∧ (x_.length * 24 ≤ 140737488351232 ∧ ∀ y0_ ∈ x_, G49 y0_) := by obtain ⟨f, hf⟩ := h0; exact ((Opens.slice Try.underlying37 opens49 (by kernel_rfl) (b := 24) (by kernel_rfl))).get enc W 0 _ _ f _ _ hf (weights_at hsz (j := 0) (t := 37) rfl rfl)
  obtain ⟨A0, c0, e0, L0, C0⟩ := K0
  injection e0 with e0 _
  injection e0 with e0a e0b e0c
  subst e0a e0b e0c
  obtain ⟨a1, len1, cap1, rfl⟩ := okWide_slice Try.underlying35 (hval 1 35 v1 rfl rfl)
  have k1 := h1
  have lt1 : ∀ x ∈ p1, x.block < W.heap.size := by obtain ⟨m, hm⟩ := k1; exact DataW.trod_lt m _ _ _ hm
  obtain ⟨x1, K1, g1⟩ : ∃ x_ : List (S59), (Kd.slice 59 k59).K W x_ [.slice a1 len1 cap1] ∧ (x_.length * 48 ≤ 140737488351232 ∧ ∀ y0_ ∈ x_, G59 y0_) := by obtain ⟨f, hf⟩ := h1; exact ((Opens.slice Try.underlying35 opens59 (by kernel_rfl) (b := 48) (by kernel_rfl))).get enc W 0 _ _ f _ _ hf (weights_at hsz (j := 1) (t := 35) rfl rfl)
  obtain ⟨A1, c1, e1, L1, C1⟩ := K1
  injection e1 with e1 _
  injection e1 with e1a e1b e1c
  subst e1a e1b e1c
  obtain ⟨x2, rfl, rfl, rfl, g2⟩ := open_int Try.underlying3 (hval 2 3 v2 rfl rfl) h2
  clear hA0 hval0 hsz0 hsz
  obtain ⟨k, h⟩ := Pure.TaxWithin x0 x1 x2 g0 g1 g2
  refine (M.accountinglaw25_TaxWithin.calls (k := k) (r := true) (w := W) (hr0 := C0) (hc0 := L0) (hr1 := C1) (hc1 := L1) (h := h)).mono fun e W' ⟨he, bel0⟩ => ?_
  have bel : Below W.heap.size W W' := by first | exact bel0 | exact bel0.below | (obtain ⟨nd, rfl⟩ := bel0; exact pw_below_drewN (Below.refl _ _) nd)
  subst he
  exact ⟨_, rfl, _, _, _, [], _, [], hW', trodAll_mk1 (shut_bool Try.underlying4 _), (trodAll_cons_mk (Below.trod laidOut (by kernel_rfl) (of_decide_eq_true (by kernel_rfl)) k0 bel lt0) (trodAll_cons_mk (Below.trod laidOut (by kernel_rfl) (of_decide_eq_true (by kernel_rfl)) k1 bel lt1) (trodAll_cons_mk (shut_int Try.underlying3 g2) trodAll_mk0))), rfl, bel.frame _, fun h => by cases h⟩
theorem over : Rows.taxWithinRow.holds Try.pinned (OpenSpec.ofChange Rows.taxWithinSpec) :=
  OpenClaim.holds_of_wide 8 Try.f8 rfl rfl rfl rfl rfl rfl rfl ⟨rfl, rfl, rfl, rfl, rfl⟩ rfl rfl rfl rfl rfl (by kernel_rfl) Try.func8 (by kernel_rfl)
    (of_decide_eq_true (by kernel_rfl)) (by unfold Func.isWrapper; first | (rw [if_pos (by decide +kernel)]; kernel_rfl) | (rw [if_neg (by decide +kernel)]; exact ⟨rfl, rfl⟩))
    (fun os started H enc _ => lifted os started H enc)
theorem proved : Rows.TaxWithinSaid := over
#print axioms proved
end Go.Proofs.Ytgjpegmhlnabpaa.taxWithin
namespace Go.Proofs.Ytgjpegmhlnabpaa
theorem taxWithin_holds : Rows.TaxWithinSaid := taxWithin.proved
end Go.Proofs.Ytgjpegmhlnabpaa
end
