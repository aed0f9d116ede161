/- What the claims of this seat share, part 2 of 6: what the program's functions compute. -/
import Derived.Test.YtgjpegmhlnabpaaQB1
import Derived.Laws.BitsLemmas
import Derived.RowKit
section
-- Written by mprint.py (a program of this session) over the kit's print.
namespace Go.Proofs.Ytgjpegmhlnabpaa.M
open Go.RowKit Go.Proofs.YtgjpegmhlnabpaaW.PrintWords Go.Proofs.YtgjpegmhlnabpaaW.PrintLast Go.Proofs.YtgjpegmhlnabpaaW.PrintMore
attribute [local go_sem] max2_int min2_int max_two min_two max_three min_three max_four min_four   -- for this text's walks alone
set_option linter.unusedVariables false
set_option linter.unusedSimpArgs false
/-! ### tax_rate: function 28 -/
def tax_rate.f (k : Nat) (a0_0 : Int) (a0_1 : Int) : Option (Bool) := (frac_Right.f k a0_0 a0_1).bind fun t102 => (if t102 = true then (if a0_0 ≥ 0 then (some (decide (a0_0 ≤ a0_1))) else (some false)) else (some false))
theorem tax_rate.mono : ∀ a0 a1 k, LeO (tax_rate.f k a0 a1) (tax_rate.f (k + 1) a0 a1) := by
 intro a0 a1 k
 unfold tax_rate.f
 repeat' first
   | (with_reducible exact frac_Right.mono _ _ _)
   | (with_reducible exact LeO.refl _)
   | (with_reducible exact LeO.none _)
   | (with_reducible refine LeO.ite ?_ ?_)
   | (with_reducible refine LeO.bind ?_ (fun _ => ?_))
   | exact frac_Right.mono _ _ _
   | exact LeO.none _
   | refine LeO.ite ?_ ?_
   | refine LeO.bind ?_ (fun _ => ?_)
set_option maxHeartbeats 8000000 in
set_option maxRecDepth 100000 in
theorem tax_rate.calls (k : Nat) (a0_0 : Int) (a0_1 : Int) (r : Bool) (w : World) (h : tax_rate.f k a0_0 a0_1 = some r) :
    Calls Try.prog 28 #[.agg #[.int .i64 a0_0, .int .i64 a0_1]] w fun e w' => e = .returned (.bool r) ∧ Below w.heap.size w w' := by
 have hu23 := Try.underlying23
 have hu3 := Try.underlying3
 have HB := Aside0.mk (Below.refl w.heap.size w)
 have H : ((frac_Right.f k a0_0 a0_1).bind fun t102 => (if t102 = true then (if a0_0 ≥ 0 then (some (decide (a0_0 ≤ a0_1))) else (some false)) else (some false))) = some r := h
 clear h
 replace H := Option.bind_eq_some_iff.mp H
 obtain ⟨t102, A20, H⟩ := H
 replace H : (if t102 = true then (if a0_0 ≥ 0 then (some (decide (a0_0 ≤ a0_1))) else (some false)) else (some false)) = some r := H
 have A2 := Aside0.mk A20
 clear A20
 by_cases c3 : t102 = true
 ·subst c3
  have H1 : (if a0_0 ≥ 0 then (some (decide (a0_0 ≤ a0_1))) else (some false)) = some r := by rw [if_pos rfl] at H; exact H
  clear H
  have H := H1
  clear H1
  by_cases c4 : a0_0 ≥ 0
  ·rw [if_pos c4] at H
   have c4b0 : decide (0 ≤ a0_0) = true := decide_eq_true c4
   clear c4
   obtain rfl := Option.some.inj H
   go_enter Try.func28, Try.ntmps28
   go_wp2_with (first | ((with_reducible refine gate_dst (N := 1) rfl ?_); refine box_event ?hg (N := 1) ?hd (cs := #[.int .i64 a0_0, .int .i64 a0_1]) (t := 23) ?hr ?_; (case hd => rfl); (case hg => rfl); (case hr => first | (go_simp; done) | (go_simp; rfl)); intro gb101 hg w5 hbox hb; have n0_ := Aside0.mk (below_step (by repeat (first | (with_reducible first | exact HB.out | apply below_alloc | apply pw_below_drewN | apply below_drew1) | exact HB.out)) hb); have n1_ := Aside0.mk (hbox); have n2_ := Aside0.mk ((by rw [hg]; exact (below_size (by repeat (first | (with_reducible first | exact HB.out | apply below_alloc | apply pw_below_drewN | apply below_drew1) | exact HB.out))) : w.heap.size ≤ gb101)); have n3_ := Aside0.mk ((by rw [hg]; exact (below_size (by repeat (first | (with_reducible first | exact HB.out | apply below_alloc | apply pw_below_drewN | apply below_drew1) | exact HB.out))) : w.heap.size ≤ gb101)); clear HB; have HB := n0_; have BK101 := n1_; have GW101 := n2_; have GE101 := n3_; clear n0_ n1_ n2_ n3_; clear hb hbox hg; have hcz6_0 : w5.cell? ⟨gb101, 0, none⟩ = some (.int .i64 a0_0) := (blk_cell BK101.out 0).trans rfl; have hcz6_1 : w5.cell? ⟨gb101, 1, none⟩ = some (.int .i64 a0_1) := (blk_cell BK101.out 1).trans rfl; have hfz6_0 := blk_frozen BK101.out 0; have hfz6_1 := blk_frozen BK101.out 1) | ((with_reducible refine gate_callee (f := 52) rfl ?_); refine goesL_ (some 4) rfl rfl Try.func52 (by kernel_rfl) rfl #[.agg #[.int .i64 a0_0, .int .i64 a0_1]] rfl (by (try simp only [List.map_toArray, List.map_cons, List.map_nil]); first | done | rfl | (simp only [List.length_drop, List.length_take]; rfl)) ?_; (with_reducible refine (frac_Right.calls k a0_0 a0_1 true _ A2.out).mono ?_); rintro e w7 ⟨rfl, hb⟩; refine ⟨_, rfl, ?_⟩; have n0_ := Aside0.mk (blk_below (g := gb101) (o := .cells #[.int .i64 a0_0, .int .i64 a0_1] 23 (0, 0)) (by (with_reducible repeat (first | refine blk_drewN ?_ _ | refine blk_drew ?_ | refine blk_alloc ?_ _)); exact BK101.out) hb); have n1_ := Aside0.mk (below_step (by repeat (first | (with_reducible first | exact HB.out | apply below_alloc | apply pw_below_drewN | apply below_drew1 | refine below_set ?_ GE101.out) | exact HB.out)) hb); clear BK101; clear HB; have BK101 := n0_; have HB := n1_; clear n0_ n1_; (try clear hb); (try clear hb2); (try clear hk); (try clear hi); have hcz8_0 : w7.cell? ⟨gb101, 0, none⟩ = some (.int .i64 a0_0) := (blk_cell BK101.out 0).trans rfl; have hcz8_1 : w7.cell? ⟨gb101, 1, none⟩ = some (.int .i64 a0_1) := (blk_cell BK101.out 1).trans rfl; have hfz8_0 := blk_frozen BK101.out 0; have hfz8_1 := blk_frozen BK101.out 1))
   go_ret
   exact ⟨by first | rfl | (simp [errW_none, errW_some] <;> rfl) | (simp [*, errW_none, errW_some] <;> rfl), by repeat (first | (with_reducible first | exact HB.out | apply below_alloc | apply pw_below_drewN | apply below_drew1 | refine below_set ?_ GE101.out) | exact HB.out)⟩
  ·rw [if_neg c4] at H
   have c4b0 : decide (0 ≤ a0_0) = false := decide_eq_false c4
   clear c4
   obtain rfl := Option.some.inj H
   go_enter Try.func28, Try.ntmps28
   go_wp2_with (first | ((with_reducible refine gate_dst (N := 1) rfl ?_); refine box_event ?hg (N := 1) ?hd (cs := #[.int .i64 a0_0, .int .i64 a0_1]) (t := 23) ?hr ?_; (case hd => rfl); (case hg => rfl); (case hr => first | (go_simp; done) | (go_simp; rfl)); intro gb101 hg w9 hbox hb; have n0_ := Aside0.mk (below_step (by repeat (first | (with_reducible first | exact HB.out | apply below_alloc | apply pw_below_drewN | apply below_drew1) | exact HB.out)) hb); have n1_ := Aside0.mk (hbox); have n2_ := Aside0.mk ((by rw [hg]; exact (below_size (by repeat (first | (with_reducible first | exact HB.out | apply below_alloc | apply pw_below_drewN | apply below_drew1) | exact HB.out))) : w.heap.size ≤ gb101)); have n3_ := Aside0.mk ((by rw [hg]; exact (below_size (by repeat (first | (with_reducible first | exact HB.out | apply below_alloc | apply pw_below_drewN | apply below_drew1) | exact HB.out))) : w.heap.size ≤ gb101)); clear HB; have HB := n0_; have BK101 := n1_; have GW101 := n2_; have GE101 := n3_; clear n0_ n1_ n2_ n3_; clear hb hbox hg; have hcz10_0 : w9.cell? ⟨gb101, 0, none⟩ = some (.int .i64 a0_0) := (blk_cell BK101.out 0).trans rfl; have hcz10_1 : w9.cell? ⟨gb101, 1, none⟩ = some (.int .i64 a0_1) := (blk_cell BK101.out 1).trans rfl; have hfz10_0 := blk_frozen BK101.out 0; have hfz10_1 := blk_frozen BK101.out 1) | ((with_reducible refine gate_callee (f := 52) rfl ?_); refine goesL_ (some 4) rfl rfl Try.func52 (by kernel_rfl) rfl #[.agg #[.int .i64 a0_0, .int .i64 a0_1]] rfl (by (try simp only [List.map_toArray, List.map_cons, List.map_nil]); first | done | rfl | (simp only [List.length_drop, List.length_take]; rfl)) ?_; (with_reducible refine (frac_Right.calls k a0_0 a0_1 true _ A2.out).mono ?_); rintro e w11 ⟨rfl, hb⟩; refine ⟨_, rfl, ?_⟩; have n0_ := Aside0.mk (blk_below (g := gb101) (o := .cells #[.int .i64 a0_0, .int .i64 a0_1] 23 (0, 0)) (by (with_reducible repeat (first | refine blk_drewN ?_ _ | refine blk_drew ?_ | refine blk_alloc ?_ _)); exact BK101.out) hb); have n1_ := Aside0.mk (below_step (by repeat (first | (with_reducible first | exact HB.out | apply below_alloc | apply pw_below_drewN | apply below_drew1 | refine below_set ?_ GE101.out) | exact HB.out)) hb); clear BK101; clear HB; have BK101 := n0_; have HB := n1_; clear n0_ n1_; (try clear hb); (try clear hb2); (try clear hk); (try clear hi); have hcz12_0 : w11.cell? ⟨gb101, 0, none⟩ = some (.int .i64 a0_0) := (blk_cell BK101.out 0).trans rfl; have hcz12_1 : w11.cell? ⟨gb101, 1, none⟩ = some (.int .i64 a0_1) := (blk_cell BK101.out 1).trans rfl; have hfz12_0 := blk_frozen BK101.out 0; have hfz12_1 := blk_frozen BK101.out 1))
   go_ret
   exact ⟨by first | rfl | (simp [errW_none, errW_some] <;> rfl) | (simp [*, errW_none, errW_some] <;> rfl), by repeat (first | (with_reducible first | exact HB.out | apply below_alloc | apply pw_below_drewN | apply below_drew1 | refine below_set ?_ GE101.out) | exact HB.out)⟩
 ·replace c3 := Bool.eq_false_iff.mpr c3
  subst c3
  have H1 : (some false) = some r := by rw [if_neg (show ¬ (false = true) by decide)] at H; exact H
  clear H
  have H := H1
  clear H1
  obtain rfl := Option.some.inj H
  go_enter Try.func28, Try.ntmps28
  go_wp2_with (first | ((with_reducible refine gate_dst (N := 1) rfl ?_); refine box_event ?hg (N := 1) ?hd (cs := #[.int .i64 a0_0, .int .i64 a0_1]) (t := 23) ?hr ?_; (case hd => rfl); (case hg => rfl); (case hr => first | (go_simp; done) | (go_simp; rfl)); intro gb101 hg w13 hbox hb; have n0_ := Aside0.mk (below_step (by repeat (first | (with_reducible first | exact HB.out | apply below_alloc | apply pw_below_drewN | apply below_drew1) | exact HB.out)) hb); have n1_ := Aside0.mk (hbox); have n2_ := Aside0.mk ((by rw [hg]; exact (below_size (by repeat (first | (with_reducible first | exact HB.out | apply below_alloc | apply pw_below_drewN | apply below_drew1) | exact HB.out))) : w.heap.size ≤ gb101)); have n3_ := Aside0.mk ((by rw [hg]; exact (below_size (by repeat (first | (with_reducible first | exact HB.out | apply below_alloc | apply pw_below_drewN | apply below_drew1) | exact HB.out))) : w.heap.size ≤ gb101)); clear HB; have HB := n0_; have BK101 := n1_; have GW101 := n2_; have GE101 := n3_; clear n0_ n1_ n2_ n3_; clear hb hbox hg; have hcz14_0 : w13.cell? ⟨gb101, 0, none⟩ = some (.int .i64 a0_0) := (blk_cell BK101.out 0).trans rfl; have hcz14_1 : w13.cell? ⟨gb101, 1, none⟩ = some (.int .i64 a0_1) := (blk_cell BK101.out 1).trans rfl; have hfz14_0 := blk_frozen BK101.out 0; have hfz14_1 := blk_frozen BK101.out 1) | ((with_reducible refine gate_callee (f := 52) rfl ?_); refine goesL_ (some 4) rfl rfl Try.func52 (by kernel_rfl) rfl #[.agg #[.int .i64 a0_0, .int .i64 a0_1]] rfl (by (try simp only [List.map_toArray, List.map_cons, List.map_nil]); first | done | rfl | (simp only [List.length_drop, List.length_take]; rfl)) ?_; (with_reducible refine (frac_Right.calls k a0_0 a0_1 false _ A2.out).mono ?_); rintro e w15 ⟨rfl, hb⟩; refine ⟨_, rfl, ?_⟩; have n0_ := Aside0.mk (blk_below (g := gb101) (o := .cells #[.int .i64 a0_0, .int .i64 a0_1] 23 (0, 0)) (by (with_reducible repeat (first | refine blk_drewN ?_ _ | refine blk_drew ?_ | refine blk_alloc ?_ _)); exact BK101.out) hb); have n1_ := Aside0.mk (below_step (by repeat (first | (with_reducible first | exact HB.out | apply below_alloc | apply pw_below_drewN | apply below_drew1 | refine below_set ?_ GE101.out) | exact HB.out)) hb); clear BK101; clear HB; have BK101 := n0_; have HB := n1_; clear n0_ n1_; (try clear hb); (try clear hb2); (try clear hk); (try clear hi)))
  go_ret
  exact ⟨by first | rfl | (simp [errW_none, errW_some] <;> rfl) | (simp [*, errW_none, errW_some] <;> rfl), by repeat (first | (with_reducible first | exact HB.out | apply below_alloc | apply pw_below_drewN | apply below_drew1 | refine below_set ?_ GE101.out) | exact HB.out)⟩
end Go.Proofs.Ytgjpegmhlnabpaa.M
end
section
-- Written by mprint.py (a program of this session) over the kit's print.
namespace Go.Proofs.Ytgjpegmhlnabpaa.M
open Go.RowKit Go.Proofs.YtgjpegmhlnabpaaW.PrintWords Go.Proofs.YtgjpegmhlnabpaaW.PrintLast Go.Proofs.YtgjpegmhlnabpaaW.PrintMore
attribute [local go_sem] max2_int min2_int max_two min_two max_three min_three max_four min_four   -- for this text's walks alone
set_option linter.unusedVariables false
set_option linter.unusedSimpArgs false
/-! ### tax_far: function 37 -/
def tax_far.f (a0 : Int) (a1 : Int) : Option (Bool) := if a0 > a1 then (some true) else (some (decide (a0 < (wrap64 (-a1)))))
set_option maxHeartbeats 8000000 in
set_option maxRecDepth 100000 in
theorem tax_far.calls (a0 : Int) (a1 : Int) (r : Bool) (w : World) (h : tax_far.f a0 a1 = some r) :
    Calls Try.prog 37 #[.int .i64 a0, .int .i64 a1] w fun e w' => e = .returned (.bool r) ∧ Drawn0 w w' := by
 have H : (if a0 > a1 then (some true) else (some (decide (a0 < (wrap64 (-a1)))))) = some r := h
 clear h
 by_cases c3 : a0 > a1
 ·rw [if_pos c3] at H
  have c3b0 : decide (a1 < a0) = true := decide_eq_true c3
  clear c3
  obtain rfl := Option.some.inj H
  go_enter Try.func37, Try.ntmps37
  go_wp2
  go_ret
  exact ⟨by first | rfl | (simp; done) | (simp [*]; done), by repeat (first | exact Drawn0.refl _ | apply Drawn0.step)⟩
 ·rw [if_neg c3] at H
  have c3b0 : decide (a1 < a0) = false := decide_eq_false c3
  clear c3
  obtain rfl := Option.some.inj H
  go_enter Try.func37, Try.ntmps37
  go_wp2
  go_ret
  exact ⟨by first | rfl | (simp; done) | (simp [*]; done), by repeat (first | exact Drawn0.refl _ | apply Drawn0.step)⟩
end Go.Proofs.Ytgjpegmhlnabpaa.M
end
section
-- Written by mprint.py (a program of this session) over the kit's print.
namespace Go.Proofs.Ytgjpegmhlnabpaa.M
open Go.RowKit Go.Proofs.YtgjpegmhlnabpaaW.PrintWords Go.Proofs.YtgjpegmhlnabpaaW.PrintLast Go.Proofs.YtgjpegmhlnabpaaW.PrintMore
attribute [local go_sem] max2_int min2_int max_two min_two max_three min_three max_four min_four   -- for this text's walks alone
set_option linter.unusedVariables false
set_option linter.unusedSimpArgs false
/-! ### tax_check: function 22 -/
def tax_check.j0 : Nat → Int → Bool → Int → Int → Option (Int)
  | 0, _, _, _, _ => none
  | k + 1, x0, x7, x102000, x102001 => if x7 = true then (some 10) else ((tax_rate.f k x102000 x102001).bind fun t102 => (if t102 = true then ((tax_far.f x0 1000000000000000).bind fun t103 => (if t103 = true then (some 4) else (some 0))) else (some 2)))
def tax_check.f (k : Nat) (a0 : Int) (a1_0 : Int) (a1_1 : Int) (a2 : Int) : Option (Int) := if a2 < 1 then (tax_check.j0 k a0 true a1_0 a1_1) else (tax_check.j0 k a0 (decide (a2 > 5)) a1_0 a1_1)
theorem tax_check.mono_l : ∀ k, (∀ y0 y1 y2 y3, LeO (tax_check.j0 k y0 y1 y2 y3) (tax_check.j0 (k + 1) y0 y1 y2 y3))
  | 0 => fun _ _ _ _ r h => by simp [tax_check.j0] at h
  | k + 1 => by
    have ih0 := tax_check.mono_l k
    · intro y0 y1 y2 y3
      unfold tax_check.j0
      repeat' first
      | (with_reducible exact ih0 _ _ _ _)
      | (with_reducible exact tax_rate.mono _ _ _)
      | (with_reducible exact LeO.refl _)
      | (with_reducible exact LeO.none _)
      | (with_reducible refine LeO.ite ?_ ?_)
      | (with_reducible refine LeO.bind ?_ (fun _ => ?_))
      | exact ih0 _ _ _ _
      | exact tax_rate.mono _ _ _
      | exact LeO.none _
      | refine LeO.ite ?_ ?_
      | refine LeO.bind ?_ (fun _ => ?_)
theorem tax_check.mono : ∀ a0 a1 a2 a3 k, LeO (tax_check.f k a0 a1 a2 a3) (tax_check.f (k + 1) a0 a1 a2 a3) := by
 intro a0 a1 a2 a3 k
 have ih0 := tax_check.mono_l k
 unfold tax_check.f
 repeat' first
   | (with_reducible exact ih0 _ _ _ _)
   | (with_reducible exact tax_rate.mono _ _ _)
   | (with_reducible exact LeO.refl _)
   | (with_reducible exact LeO.none _)
   | (with_reducible refine LeO.ite ?_ ?_)
   | (with_reducible refine LeO.bind ?_ (fun _ => ?_))
   | exact ih0 _ _ _ _
   | exact tax_rate.mono _ _ _
   | exact LeO.none _
   | refine LeO.ite ?_ ?_
   | refine LeO.bind ?_ (fun _ => ?_)
set_option maxHeartbeats 8000000 in
set_option maxRecDepth 100000 in
theorem tax_check.calls (k : Nat) (a0 : Int) (a1_0 : Int) (a1_1 : Int) (a2 : Int) (r : Int) (w : World) (h : tax_check.f k a0 a1_0 a1_1 a2 = some r) :
    Calls Try.prog 22 #[.int .i64 a0, .agg #[.int .i64 a1_0, .int .i64 a1_1], .int .i64 a2] w fun e w' => e = .returned (.int .i64 r) ∧ Below w.heap.size w w' := by
 have hu23 := Try.underlying23
 have HB := Aside0.mk (Below.refl w.heap.size w)
 have H : (if a2 < 1 then (tax_check.j0 k a0 true a1_0 a1_1) else (tax_check.j0 k a0 (decide (a2 > 5)) a1_0 a1_1)) = some r := h
 clear h
 have HC4 := Aside0.mk H
 clear H
 go_enter Try.func22, Try.ntmps22
 go_upto_region 1 with (first | ((with_reducible refine gate_dst (N := 4) rfl ?_); refine box_event ?hg (N := 4) ?hd (cs := #[.int .i64 a1_0, .int .i64 a1_1]) (t := 23) ?hr ?_; (case hd => rfl); (case hg => rfl); (case hr => first | (go_simp; done) | (go_simp; rfl)); intro gb101 hg w5 hbox hb; have n0_ := Aside0.mk (below_step (by repeat (first | (with_reducible first | exact HB.out | apply below_alloc | apply pw_below_drewN | apply below_drew1) | exact HB.out)) hb); have n1_ := Aside0.mk (hbox); have n2_ := Aside0.mk ((by rw [hg]; exact (below_size (by repeat (first | (with_reducible first | exact HB.out | apply below_alloc | apply pw_below_drewN | apply below_drew1) | exact HB.out))) : w.heap.size ≤ gb101)); have n3_ := Aside0.mk ((by rw [hg]; exact (below_size (by repeat (first | (with_reducible first | exact HB.out | apply below_alloc | apply pw_below_drewN | apply below_drew1) | exact HB.out))) : w.heap.size ≤ gb101)); clear HB; have HB := n0_; have BK101 := n1_; have GW101 := n2_; have GE101 := n3_; clear n0_ n1_ n2_ n3_; clear hb hbox hg))
 (try simp only [Act.put, List.setIfInBounds_toArray, List.set_cons_zero, List.set_cons_succ])
 go_cut [7] (fun v7 wc => ∃ (kq : Nat) (x7_3 : Bool), v7 = .bool x7_3 ∧ Aside0 (tax_check.j0 kq a0 x7_3 a1_0 a1_1 = some r) ∧ Aside0 (kq ≤ k) ∧ Aside0 (wc.heap[gb101]? = some (.cells #[.int .i64 a1_0, .int .i64 a1_1] 23 (0, 0))) ∧ Aside0 (Below w.heap.size w wc))
 case first =>
  have H := HC4.out
  clear HC4
  by_cases c6 : a2 < 1
  ·rw [if_pos c6] at H
   have c6b0 : decide (a2 < 1) = true := decide_eq_true c6
   clear c6
   (first | rw [c6b0] | (simp only [i64_w, i32_w]; rw [c6b0]) | skip)
   have H' := Aside0.mk H
   clear H
   go_wp2
   go_meet
   case rel => exact ⟨_, (true), (by first | rfl | (simp; done) | (simp [*]; done)), H', ⟨by first | omega | exact Nat.le_refl _⟩, ⟨by (with_reducible repeat (first | refine blk_drewN ?_ _ | refine blk_drew ?_ | refine blk_alloc ?_ _)); exact BK101.out⟩, ⟨by repeat (first | (with_reducible first | exact HB.out | apply below_alloc | apply pw_below_drewN | apply below_drew1 | refine below_set ?_ GE101.out) | exact HB.out)⟩⟩
  ·rw [if_neg c6] at H
   have c6b0 : decide (a2 < 1) = false := decide_eq_false c6
   clear c6
   (first | rw [c6b0] | (simp only [i64_w, i32_w]; rw [c6b0]) | skip)
   have H' := Aside0.mk H
   clear H
   go_wp2
   go_meet
   case rel => exact ⟨_, (decide (a2 > 5)), (by first | rfl | (simp; done) | (simp [*]; done)), H', ⟨by first | omega | exact Nat.le_refl _⟩, ⟨by (with_reducible repeat (first | refine blk_drewN ?_ _ | refine blk_drew ?_ | refine blk_alloc ?_ _)); exact BK101.out⟩, ⟨by repeat (first | (with_reducible first | exact HB.out | apply below_alloc | apply pw_below_drewN | apply below_drew1 | refine below_set ?_ GE101.out) | exact HB.out)⟩⟩
 case rest =>
  clear HC4
  try clear c2
  try clear p2
  try clear c6
  try clear c6b0
  obtain ⟨kq, x7_3, rfl, HA, HJ3, BK101, HB⟩ := hcut
  cases kq with
  | zero => exact absurd HA.out (by simp [tax_check.j0])
  | succ kj3 =>
   have H := HA.out
   clear HA
   simp only [tax_check.j0] at H
   by_cases c7 : x7_3 = true
   ·subst c7
    have H1 : (some 10) = some r := by rw [if_pos rfl] at H; exact H
    clear H
    have H := H1
    clear H1
    obtain rfl := Option.some.inj H
    go_wp2
    go_ret
    exact ⟨by first | rfl | (simp [errW_none, errW_some] <;> rfl) | (simp [*, errW_none, errW_some] <;> rfl), by repeat (first | (with_reducible first | exact HB.out | apply below_alloc | apply pw_below_drewN | apply below_drew1 | refine below_set ?_ GE101.out) | exact HB.out)⟩
   ·replace c7 := Bool.eq_false_iff.mpr c7
    subst c7
    have H1 : ((tax_rate.f kj3 a1_0 a1_1).bind fun t102 => (if t102 = true then ((tax_far.f a0 1000000000000000).bind fun t103 => (if t103 = true then (some 4) else (some 0))) else (some 2))) = some r := by rw [if_neg (show ¬ (false = true) by decide)] at H; exact H
    clear H
    have H := H1
    clear H1
    replace H := Option.bind_eq_some_iff.mp H
    obtain ⟨t102, A80, H⟩ := H
    replace H : (if t102 = true then ((tax_far.f a0 1000000000000000).bind fun t103 => (if t103 = true then (some 4) else (some 0))) else (some 2)) = some r := H
    have A8 := Aside0.mk A80
    clear A80
    by_cases c9 : t102 = true
    ·subst c9
     have H1 : ((tax_far.f a0 1000000000000000).bind fun t103 => (if t103 = true then (some 4) else (some 0))) = some r := by rw [if_pos rfl] at H; exact H
     clear H
     have H := H1
     clear H1
     replace H := Option.bind_eq_some_iff.mp H
     obtain ⟨t103, A100, H⟩ := H
     replace H : (if t103 = true then (some 4) else (some 0)) = some r := H
     have A10 := Aside0.mk A100
     clear A100
     by_cases c11 : t103 = true
     ·subst c11
      have H1 : (some 4) = some r := by rw [if_pos rfl] at H; exact H
      clear H
      have H := H1
      clear H1
      obtain rfl := Option.some.inj H
      have hcz12_0 : wc.cell? ⟨gb101, 0, none⟩ = some (.int .i64 a1_0) := (blk_cell BK101.out 0).trans rfl
      have hcz12_1 : wc.cell? ⟨gb101, 1, none⟩ = some (.int .i64 a1_1) := (blk_cell BK101.out 1).trans rfl
      have hfz12_0 := blk_frozen BK101.out 0
      have hfz12_1 := blk_frozen BK101.out 1
      go_wp2_with (first | ((with_reducible refine gate_callee (f := 28) rfl ?_); refine goesL_ (some 16) rfl rfl Try.func28 (by kernel_rfl) rfl #[.agg #[.int .i64 a1_0, .int .i64 a1_1]] rfl (by (try simp only [List.map_toArray, List.map_cons, List.map_nil]); first | done | rfl | (simp only [List.length_drop, List.length_take]; rfl)) ?_; (with_reducible refine (tax_rate.calls kj3 a1_0 a1_1 true _ A8.out).mono ?_); rintro e w13 ⟨rfl, hb⟩; refine ⟨_, rfl, ?_⟩; have n0_ := Aside0.mk (blk_below (g := gb101) (o := .cells #[.int .i64 a1_0, .int .i64 a1_1] 23 (0, 0)) (by (with_reducible repeat (first | refine blk_drewN ?_ _ | refine blk_drew ?_ | refine blk_alloc ?_ _)); exact BK101.out) hb); have n1_ := Aside0.mk (below_step (by repeat (first | (with_reducible first | exact HB.out | apply below_alloc | apply pw_below_drewN | apply below_drew1 | refine below_set ?_ GE101.out) | exact HB.out)) hb); clear BK101; clear HB; have BK101 := n0_; have HB := n1_; clear n0_ n1_; (try clear hb); (try clear hb2); (try clear hk); (try clear hi)) | ((with_reducible refine gate_callee (f := 37) rfl ?_); refine goesL_ (some 20) rfl rfl Try.func37 (by kernel_rfl) rfl #[.int .i64 a0, .int .i64 1000000000000000] rfl (by (try simp only [List.map_toArray, List.map_cons, List.map_nil]); first | done | rfl | (simp only [List.length_drop, List.length_take]; rfl)) ?_; (with_reducible refine (tax_far.calls a0 1000000000000000 true _ A10.out).mono ?_); rintro e w' ⟨rfl, ⟨nd, rfl⟩⟩; refine ⟨_, rfl, ?_⟩))
      go_ret
      exact ⟨by first | rfl | (simp [errW_none, errW_some] <;> rfl) | (simp [*, errW_none, errW_some] <;> rfl), by repeat (first | (with_reducible first | exact HB.out | apply below_alloc | apply pw_below_drewN | apply below_drew1 | refine below_set ?_ GE101.out) | exact HB.out)⟩
     ·replace c11 := Bool.eq_false_iff.mpr c11
      subst c11
      have H1 : (some 0) = some r := by rw [if_neg (show ¬ (false = true) by decide)] at H; exact H
      clear H
      have H := H1
      clear H1
      obtain rfl := Option.some.inj H
      have hcz14_0 : wc.cell? ⟨gb101, 0, none⟩ = some (.int .i64 a1_0) := (blk_cell BK101.out 0).trans rfl
      have hcz14_1 : wc.cell? ⟨gb101, 1, none⟩ = some (.int .i64 a1_1) := (blk_cell BK101.out 1).trans rfl
      have hfz14_0 := blk_frozen BK101.out 0
      have hfz14_1 := blk_frozen BK101.out 1
      go_wp2_with (first | ((with_reducible refine gate_callee (f := 28) rfl ?_); refine goesL_ (some 16) rfl rfl Try.func28 (by kernel_rfl) rfl #[.agg #[.int .i64 a1_0, .int .i64 a1_1]] rfl (by (try simp only [List.map_toArray, List.map_cons, List.map_nil]); first | done | rfl | (simp only [List.length_drop, List.length_take]; rfl)) ?_; (with_reducible refine (tax_rate.calls kj3 a1_0 a1_1 true _ A8.out).mono ?_); rintro e w15 ⟨rfl, hb⟩; refine ⟨_, rfl, ?_⟩; have n0_ := Aside0.mk (blk_below (g := gb101) (o := .cells #[.int .i64 a1_0, .int .i64 a1_1] 23 (0, 0)) (by (with_reducible repeat (first | refine blk_drewN ?_ _ | refine blk_drew ?_ | refine blk_alloc ?_ _)); exact BK101.out) hb); have n1_ := Aside0.mk (below_step (by repeat (first | (with_reducible first | exact HB.out | apply below_alloc | apply pw_below_drewN | apply below_drew1 | refine below_set ?_ GE101.out) | exact HB.out)) hb); clear BK101; clear HB; have BK101 := n0_; have HB := n1_; clear n0_ n1_; (try clear hb); (try clear hb2); (try clear hk); (try clear hi)) | ((with_reducible refine gate_callee (f := 37) rfl ?_); refine goesL_ (some 20) rfl rfl Try.func37 (by kernel_rfl) rfl #[.int .i64 a0, .int .i64 1000000000000000] rfl (by (try simp only [List.map_toArray, List.map_cons, List.map_nil]); first | done | rfl | (simp only [List.length_drop, List.length_take]; rfl)) ?_; (with_reducible refine (tax_far.calls a0 1000000000000000 false _ A10.out).mono ?_); rintro e w' ⟨rfl, ⟨nd, rfl⟩⟩; refine ⟨_, rfl, ?_⟩))
      go_ret
      exact ⟨by first | rfl | (simp [errW_none, errW_some] <;> rfl) | (simp [*, errW_none, errW_some] <;> rfl), by repeat (first | (with_reducible first | exact HB.out | apply below_alloc | apply pw_below_drewN | apply below_drew1 | refine below_set ?_ GE101.out) | exact HB.out)⟩
    ·replace c9 := Bool.eq_false_iff.mpr c9
     subst c9
     have H1 : (some 2) = some r := by rw [if_neg (show ¬ (false = true) by decide)] at H; exact H
     clear H
     have H := H1
     clear H1
     obtain rfl := Option.some.inj H
     have hcz16_0 : wc.cell? ⟨gb101, 0, none⟩ = some (.int .i64 a1_0) := (blk_cell BK101.out 0).trans rfl
     have hcz16_1 : wc.cell? ⟨gb101, 1, none⟩ = some (.int .i64 a1_1) := (blk_cell BK101.out 1).trans rfl
     have hfz16_0 := blk_frozen BK101.out 0
     have hfz16_1 := blk_frozen BK101.out 1
     go_wp2_with (first | ((with_reducible refine gate_callee (f := 28) rfl ?_); refine goesL_ (some 16) rfl rfl Try.func28 (by kernel_rfl) rfl #[.agg #[.int .i64 a1_0, .int .i64 a1_1]] rfl (by (try simp only [List.map_toArray, List.map_cons, List.map_nil]); first | done | rfl | (simp only [List.length_drop, List.length_take]; rfl)) ?_; (with_reducible refine (tax_rate.calls kj3 a1_0 a1_1 false _ A8.out).mono ?_); rintro e w17 ⟨rfl, hb⟩; refine ⟨_, rfl, ?_⟩; have n0_ := Aside0.mk (blk_below (g := gb101) (o := .cells #[.int .i64 a1_0, .int .i64 a1_1] 23 (0, 0)) (by (with_reducible repeat (first | refine blk_drewN ?_ _ | refine blk_drew ?_ | refine blk_alloc ?_ _)); exact BK101.out) hb); have n1_ := Aside0.mk (below_step (by repeat (first | (with_reducible first | exact HB.out | apply below_alloc | apply pw_below_drewN | apply below_drew1 | refine below_set ?_ GE101.out) | exact HB.out)) hb); clear BK101; clear HB; have BK101 := n0_; have HB := n1_; clear n0_ n1_; (try clear hb); (try clear hb2); (try clear hk); (try clear hi)))
     go_ret
     exact ⟨by first | rfl | (simp [errW_none, errW_some] <;> rfl) | (simp [*, errW_none, errW_some] <;> rfl), by repeat (first | (with_reducible first | exact HB.out | apply below_alloc | apply pw_below_drewN | apply below_drew1 | refine below_set ?_ GE101.out) | exact HB.out)⟩
end Go.Proofs.Ytgjpegmhlnabpaa.M
end
section
namespace Go.Proofs.Ytgjpegmhlnabpaa.M.Dv
open Go.RowKit
theorem wrap_u64 (n : Int) : IntKind.u64.wrap n = n % 18446744073709551616 := by simp [IntKind.wrap, IntKind.bits, IntKind.signed]
theorem wraps_u64 (n : Int) (h₀ : 0 ≤ n) (h₁ : n < 2 ^ 64) : IntKind.u64.wrap n = n := by rw [wrap_u64]; omega
def yv (R W : Int) (g : Nat) : Int := R * 2 ^ (64 - g) + W / 2 ^ g
structure Ctx (R W c : Int) : Prop where
  c0 : 0 < c
  c1 : c < 18446744073709551616
  r0 : 0 ≤ R
  r1 : R < c
  w0 : 0 ≤ W
  w1 : W < 18446744073709551616
structure Inv (R W c : Int) (g : Nat) (r q : Int) : Prop where
  le : g ≤ 64
  rr : r = yv R W g % c
  qq : q = yv R W g / c
theorem pow_pos (n : Nat) : (0 : Int) < 2 ^ n := Int.pow_pos (by decide)
theorem half (W : Int) (g : Nat) : W / 2 ^ g = 2 * (W / 2 ^ (g + 1)) + (W / 2 ^ g) % 2 := by
  have h : W / 2 ^ (g + 1) = W / 2 ^ g / 2 := by
    rw [Int.pow_succ, Int.ediv_ediv_of_nonneg (Int.le_of_lt (pow_pos g))]
  rw [h]; omega
theorem yv_step (R W : Int) (g : Nat) (hg : g + 1 ≤ 64) : yv R W g = 2 * yv R W (g + 1) + (W / 2 ^ g) % 2 := by
  unfold yv
  have h1 : 64 - g = (64 - (g + 1)) + 1 := by omega
  rw [h1, Int.pow_succ]
  have h2 := half W g
  generalize (2 : Int) ^ (64 - (g + 1)) = p at *
  have : R * (p * 2) = 2 * (R * p) := by rw [← Int.mul_assoc, Int.mul_comm]
  rw [this]; omega
theorem yv_bound {R W c : Int} (h : Ctx R W c) (g : Nat) (hg : g ≤ 64) : 0 ≤ yv R W g ∧ yv R W g < c * 2 ^ (64 - g) := by
  unfold yv
  have hp := pow_pos g
  have hq := pow_pos (64 - g)
  have e : (2 : Int) ^ (64 - g) * 2 ^ g = 18446744073709551616 := by
    rw [← Int.pow_add]; have : 64 - g + g = 64 := by omega
    rw [this]; decide
  have hw0 : 0 ≤ W / 2 ^ g := Int.ediv_nonneg h.w0 (Int.le_of_lt hp)
  have hw1 : W / 2 ^ g < 2 ^ (64 - g) := by
    apply Int.ediv_lt_of_lt_mul hp
    rw [e]; exact h.w1
  have hr : R * 2 ^ (64 - g) ≤ (c - 1) * 2 ^ (64 - g) := Int.mul_le_mul_of_nonneg_right (by have := h.r1; omega) (Int.le_of_lt hq)
  have hr0 : 0 ≤ R * 2 ^ (64 - g) := Int.mul_nonneg h.r0 (Int.le_of_lt hq)
  have e2 : (c - 1) * 2 ^ (64 - g) = c * 2 ^ (64 - g) - 2 ^ (64 - g) := by rw [Int.sub_mul, Int.one_mul]
  omega
theorem r_bound {R W c : Int} (h : Ctx R W c) {g : Nat} {r q : Int} (i : Inv R W c g r q) : 0 ≤ r ∧ r < c := by
  rw [i.rr]; exact ⟨Int.emod_nonneg _ (by have := h.c0; omega), Int.emod_lt_of_pos _ h.c0⟩
theorem q_bound {R W c : Int} (h : Ctx R W c) {g : Nat} {r q : Int} (i : Inv R W c g r q) : 0 ≤ q ∧ q < 2 ^ (64 - g) := by
  have hb := yv_bound h g i.le
  rw [i.qq]
  refine ⟨Int.ediv_nonneg hb.1 (Int.le_of_lt h.c0), ?_⟩
  apply Int.ediv_lt_of_lt_mul h.c0
  rw [Int.mul_comm]; exact hb.2
theorem y_eq {R W c : Int} {g : Nat} {r q : Int} (i : Inv R W c g r q) : yv R W g = r + c * q := by
  rw [i.rr, i.qq]; exact (Int.emod_add_mul_ediv _ _).symm
theorem start {R W c : Int} (h : Ctx R W c) : Inv R W c 64 R 0 := by
  have : yv R W 64 = R := by
    unfold yv
    have := h.w0; have := h.w1
    simp; omega
  exact ⟨Nat.le_refl _, by rw [this, Int.emod_eq_of_lt h.r0 h.r1], by rw [this, Int.ediv_eq_zero_of_lt h.r0 h.r1]⟩
theorem bit_eq (x : Int) (h0 : 0 ≤ x) (h1 : x < 18446744073709551616) : bits .and .u64 x 1 = x % 2 :=
  bits_mask .u64 64 (by decide) wraps_u64 1 (by decide) x h0 (by simpa using h1)
theorem or_eq (x y : Int) (h0 : 0 ≤ x) (hx : x % 2 = 0) (h1 : x < 18446744073709551616) (hy0 : 0 ≤ y) (hy : y < 2) : bits .or .u64 x y = x + y :=
  bits_join .u64 64 (by decide) wraps_u64 1 x y h0 (by omega) (by omega) hy0 (by omega) (by omega)
theorem word_bound {R W c : Int} (h : Ctx R W c) (g : Nat) : 0 ≤ W / 2 ^ g ∧ W / 2 ^ g < 18446744073709551616 := by
  have hp := pow_pos g
  refine ⟨Int.ediv_nonneg h.w0 (Int.le_of_lt hp), ?_⟩
  apply Int.ediv_lt_of_lt_mul hp
  have := h.w1
  have h2 : (18446744073709551616 : Int) * 1 ≤ 18446744073709551616 * 2 ^ g := Int.mul_le_mul_of_nonneg_left (by omega) (by decide)
  omega
theorem next_v {R W c : Int} (h : Ctx R W c) {g : Nat} {r q : Int} (i : Inv R W c (g + 1) r q) :
    bits .or .u64 (IntKind.u64.wrap (r * 2)) (bits .and .u64 (W / 2 ^ g) 1) = (r * 2) % 18446744073709551616 + (W / 2 ^ g) % 2 := by
  have hw := word_bound h g
  rw [bit_eq _ hw.1 hw.2, wrap_u64]
  have := r_bound h i
  exact or_eq _ _ (by omega) (by omega) (by omega) (by omega) (by omega)
theorem next {R W c : Int} (h : Ctx R W c) {g : Nat} {r q : Int} (i : Inv R W c (g + 1) r q) {r' q' : Int}
    (hr : r' + c * q' = 2 * r + (W / 2 ^ g) % 2 + c * (2 * q)) (h0 : 0 ≤ r') (h1 : r' < c) : Inv R W c g r' q' := by
  have hy := y_eq i
  have hs := yv_step R W g i.le
  have hu : r' + c * q' = yv R W g := by
    rw [hs, hy, hr]
    have : c * (2 * q) = 2 * (c * q) := by rw [← Int.mul_assoc, Int.mul_comm c 2, Int.mul_assoc]
    rw [this]; omega
  have := (Int.ediv_emod_unique (a := yv R W g) (b := c) (r := r') (q := q') h.c0).2 ⟨hu, h0, h1⟩
  exact ⟨by have := i.le; omega, this.2.symm, this.1.symm⟩
theorem q2 {R W c : Int} (h : Ctx R W c) {g : Nat} {r q : Int} (i : Inv R W c (g + 1) r q) : 0 ≤ q ∧ q * 2 < 18446744073709551616 ∧ IntKind.u64.wrap (q * 2) = q * 2 := by
  have hq := q_bound h i
  have : (2 : Int) ^ (64 - (g + 1)) ≤ 2 ^ 63 := by
    have hn : (2 : Nat) ^ (64 - (g + 1)) ≤ 2 ^ 63 := Nat.pow_le_pow_right (by decide) (by omega)
    exact_mod_cast hn
  have e : (2 : Int) ^ 63 = 9223372036854775808 := by decide
  refine ⟨hq.1, by omega, ?_⟩
  rw [wrap_u64]; omega
theorem one {R W c : Int} (h : Ctx R W c) {g : Nat} {r q : Int} (i : Inv R W c (g + 1) r q)
    (hc : 9223372036854775808 ≤ r ∨ c ≤ (r * 2) % 18446744073709551616 + (W / 2 ^ g) % 2) :
    Inv R W c g (IntKind.u64.wrap (bits .or .u64 (IntKind.u64.wrap (r * 2)) (bits .and .u64 (W / 2 ^ g) 1) - c)) (bits .or .u64 (IntKind.u64.wrap (q * 2)) 1) := by
  rw [next_v h i, wrap_u64]
  obtain ⟨q0, q1, q2⟩ := q2 h i
  rw [q2, or_eq _ _ (by omega) (by omega) (by omega) (by omega) (by omega)]
  have hr := r_bound h i
  have := h.c0; have := h.c1
  generalize hb : (W / 2 ^ g) % 2 = b at *
  have hb2 : b = 0 ∨ b = 1 := by omega
  have e : (r * 2 % 18446744073709551616 + b - c) % 18446744073709551616 = r * 2 + b - c := by omega
  rw [e]
  refine next h i ?_ (by omega) (by omega)
  rw [hb, Int.mul_add, Int.mul_one, Int.mul_comm q 2]; omega
theorem zero {R W c : Int} (h : Ctx R W c) {g : Nat} {r q : Int} (i : Inv R W c (g + 1) r q)
    (h2 : r < 9223372036854775808) (hc : (r * 2) % 18446744073709551616 + (W / 2 ^ g) % 2 < c) :
    Inv R W c g (bits .or .u64 (IntKind.u64.wrap (r * 2)) (bits .and .u64 (W / 2 ^ g) 1)) (IntKind.u64.wrap (q * 2)) := by
  rw [next_v h i]
  obtain ⟨q0, q1, q2⟩ := q2 h i
  rw [q2]
  have hr := r_bound h i
  have := h.c0; have := h.c1
  generalize hb : (W / 2 ^ g) % 2 = b at *
  have hb2 : b = 0 ∨ b = 1 := by omega
  have e : r * 2 % 18446744073709551616 + b = r * 2 + b := by omega
  rw [e] at hc ⊢
  refine next h i ?_ (by omega) (by omega)
  rw [hb, Int.mul_comm q 2]; omega
theorem rest {R W c : Int} (h : Ctx R W c) {g : Nat} {q : Int} (i : Inv R W c (g + 1) 0 q) (hz : IntKind.u64.wrap (W * 2 ^ (63 - g)) = 0) :
    Inv R W c 0 0 (IntKind.u64.wrap (q * 2 ^ (g + 1))) := by
  have hy := y_eq i
  have hp := pow_pos (g + 1)
  have hle := i.le
  rw [wrap_u64] at hz
  have e : (2 : Int) ^ (63 - g) * 2 ^ (g + 1) = 18446744073709551616 := by
    rw [← Int.pow_add]; have : 63 - g + (g + 1) = 64 := by omega
    rw [this]; decide
  have hd : W % 2 ^ (g + 1) = 0 := by
    obtain ⟨k, hk⟩ := Int.dvd_of_emod_eq_zero hz
    rw [← e, Int.mul_assoc, Int.mul_comm W] at hk
    have := Int.eq_of_mul_eq_mul_left (by have := pow_pos (63 - g); omega) hk
    rw [this]; exact Int.mul_emod_right _ _
  have hW : W = 2 ^ (g + 1) * (W / 2 ^ (g + 1)) := by have := Int.emod_add_mul_ediv W (2 ^ (g + 1)); omega
  have e64 : (2 : Int) ^ (64 - (g + 1)) * 2 ^ (g + 1) = 18446744073709551616 := by
    rw [← Int.pow_add]; have : 64 - (g + 1) + (g + 1) = 64 := by omega
    rw [this]; decide
  have h0 : yv R W 0 = c * (q * 2 ^ (g + 1)) := by
    have : yv R W 0 = 2 ^ (g + 1) * yv R W (g + 1) := by
      unfold yv
      rw [Int.mul_add, ← hW]
      have : (2 : Int) ^ (g + 1) * (R * 2 ^ (64 - (g + 1))) = R * 18446744073709551616 := by
        rw [← e64, Int.mul_comm, Int.mul_assoc]
      rw [this]; simp
    rw [this, hy, Int.zero_add, Int.mul_comm, Int.mul_assoc]
  have hq := q_bound h i
  have hlt : q * 2 ^ (g + 1) < 18446744073709551616 := by
    rw [← e64]; exact Int.mul_lt_mul_of_pos_right hq.2 hp
  have hge : 0 ≤ q * 2 ^ (g + 1) := Int.mul_nonneg hq.1 (Int.le_of_lt hp)
  rw [wrap_u64, Int.emod_eq_of_lt hge hlt]
  have hc := h.c0
  exact ⟨by omega, by rw [h0, Int.mul_emod_right], by rw [h0, Int.mul_ediv_cancel_left _ (by omega)]⟩
theorem fin {R W c : Int} {r q : Int} (i : Inv R W c 0 r q) (_h : Ctx R W c) : r = (R * 18446744073709551616 + W) % c ∧ q = (R * 18446744073709551616 + W) / c := by
  have : yv R W 0 = R * 18446744073709551616 + W := by unfold yv; simp
  exact ⟨by rw [i.rr, this], by rw [i.qq, this]⟩
def qh (a0 c : Int) : Int := a0 / c
def ql (a0 a1 c : Int) : Int := (a0 % c * 18446744073709551616 + a1) / c
def rm (a0 a1 c : Int) : Int := (a0 % c * 18446744073709551616 + a1) % c
/-! The product of two words, by halves. -/
theorem mask_eq (x : Int) (h0 : 0 ≤ x) (h1 : x < 18446744073709551616) : bits .and .u64 x 4294967295 = x % 4294967296 :=
  bits_mask .u64 64 (by decide) wraps_u64 32 (by decide) x h0 (by omega)
theorem or32_eq (x y : Int) (h0 : 0 ≤ x) (hx : x % 4294967296 = 0) (h1 : x < 18446744073709551616) (hy0 : 0 ≤ y) (hy : y < 4294967296) : bits .or .u64 x y = x + y :=
  bits_join .u64 64 (by decide) wraps_u64 32 x y h0 (by omega) (by omega) hy0 (by omega) (by omega)
def mbot (a b : Int) : Int := IntKind.u64.wrap (bits .and .u64 a 4294967295 * bits .and .u64 b 4294967295)
def mmid (a b : Int) : Int := IntKind.u64.wrap (IntKind.u64.wrap (a / 4294967296 * bits .and .u64 b 4294967295) + mbot a b / 4294967296)
def moth (a b : Int) : Int := IntKind.u64.wrap (IntKind.u64.wrap (bits .and .u64 a 4294967295 * (b / 4294967296)) + bits .and .u64 (mmid a b) 4294967295)
def mhi (a b : Int) : Int := IntKind.u64.wrap (IntKind.u64.wrap (IntKind.u64.wrap (a / 4294967296 * (b / 4294967296)) + mmid a b / 4294967296) + moth a b / 4294967296)
def mlo (a b : Int) : Int := bits .or .u64 (IntKind.u64.wrap (moth a b * 4294967296)) (bits .and .u64 (mbot a b) 4294967295)
theorem prod_le (x y : Int) (h0 : 0 ≤ x) (h1 : x < 4294967296) (h2 : 0 ≤ y) (h3 : y < 4294967296) : 0 ≤ x * y ∧ x * y ≤ 18446744065119617025 := by
  refine ⟨Int.mul_nonneg h0 h2, ?_⟩
  have h4 : x * y ≤ 4294967295 * y := Int.mul_le_mul_of_nonneg_right (by omega) h2
  omega
theorem mul_words (a b : Int) (ha0 : 0 ≤ a) (ha1 : a < 18446744073709551616) (hb0 : 0 ≤ b) (hb1 : b < 18446744073709551616) :
    mhi a b = a * b / 18446744073709551616 ∧ mlo a b = a * b % 18446744073709551616 := by
  have e : a * b = (a / 4294967296) * (b / 4294967296) * 18446744073709551616 + ((a / 4294967296) * (b % 4294967296) + (a % 4294967296) * (b / 4294967296)) * 4294967296 + (a % 4294967296) * (b % 4294967296) := by
    have h1 : a = a / 4294967296 * 4294967296 + a % 4294967296 := by omega
    have h2 : b = b / 4294967296 * 4294967296 + b % 4294967296 := by omega
    generalize a / 4294967296 = x at *
    generalize b / 4294967296 = u at *
    generalize a % 4294967296 = y at *
    generalize b % 4294967296 = v at *
    subst h1 h2
    rw [Int.add_mul, Int.mul_add, Int.mul_add]
    have e1 : x * 4294967296 * (u * 4294967296) = x * u * 18446744073709551616 := by rw [Int.mul_assoc x, Int.mul_left_comm 4294967296 u, ← Int.mul_assoc x]; rfl
    have e2 : x * 4294967296 * v = x * v * 4294967296 := Int.mul_right_comm _ _ _
    have e3 : y * (u * 4294967296) = y * u * 4294967296 := (Int.mul_assoc _ _ _).symm
    rw [e1, e2, e3]; omega
  have hm := mask_eq a ha0 ha1
  have hn := mask_eq b hb0 hb1
  have p1 := prod_le (a / 4294967296) (b / 4294967296) (by omega) (by omega) (by omega) (by omega)
  have p2 := prod_le (a / 4294967296) (b % 4294967296) (by omega) (by omega) (by omega) (by omega)
  have p3 := prod_le (a % 4294967296) (b / 4294967296) (by omega) (by omega) (by omega) (by omega)
  have p4 := prod_le (a % 4294967296) (b % 4294967296) (by omega) (by omega) (by omega) (by omega)
  have hbot : mbot a b = (a % 4294967296) * (b % 4294967296) := by
    unfold mbot; rw [hm, hn, wrap_u64]; omega
  have hmid : mmid a b = (a / 4294967296) * (b % 4294967296) + (a % 4294967296) * (b % 4294967296) / 4294967296 := by
    unfold mmid; rw [hbot, hn, wrap_u64, wrap_u64]; omega
  have hk := mask_eq (mmid a b) (by omega) (by omega)
  have hoth : moth a b = (a % 4294967296) * (b / 4294967296) + mmid a b % 4294967296 := by
    unfold moth; rw [hk, hm, wrap_u64, wrap_u64]; omega
  have hl := mask_eq (mbot a b) (by omega) (by omega)
  refine ⟨?_, ?_⟩
  · unfold mhi
    rw [wrap_u64, wrap_u64, wrap_u64, e]
    generalize (a / 4294967296) * (b / 4294967296) = P1 at *
    generalize (a / 4294967296) * (b % 4294967296) = P2 at *
    generalize (a % 4294967296) * (b / 4294967296) = P3 at *
    generalize (a % 4294967296) * (b % 4294967296) = P4 at *
    clear e hl hk hm hn
    generalize mmid a b = M at *
    generalize moth a b = O at *
    have e1 : (P1 * 18446744073709551616 + (P2 + P3) * 4294967296 + P4) / 18446744073709551616 = P1 + M / 4294967296 + O / 4294967296 := by omega
    have hM : 0 ≤ M / 4294967296 ∧ M / 4294967296 ≤ 4294967294 := by omega
    have hO : 0 ≤ O / 4294967296 ∧ O / 4294967296 ≤ 4294967295 := by omega
    rw [e1]
    clear e1 hmid hoth hbot
    generalize M / 4294967296 = m1 at *
    generalize O / 4294967296 = o1 at *
    rw [Int.emod_eq_of_lt p1.1 (by omega), Int.emod_eq_of_lt (by omega) (by omega), Int.emod_eq_of_lt (by omega) (by omega)]
  · unfold mlo
    rw [hl, wrap_u64, or32_eq _ _ (by omega) (by omega) (by omega) (by omega) (by omega), e]; omega
theorem mul_bounds (a b : Int) (ha0 : 0 ≤ a) (ha1 : a < 18446744073709551616) (hb0 : 0 ≤ b) (hb1 : b < 18446744073709551616) :
    0 ≤ a * b / 18446744073709551616 ∧ a * b / 18446744073709551616 < 18446744073709551616 := by
  refine ⟨Int.ediv_nonneg (Int.mul_nonneg ha0 hb0) (by decide), ?_⟩
  apply Int.ediv_lt_of_lt_mul (by decide)
  have h1 : a * b ≤ 18446744073709551615 * b := Int.mul_le_mul_of_nonneg_right (by omega) hb0
  omega
/-! What MulDiv, Mod and Cmp come to. -/
def inI (x : Int) : Prop := -9223372036854775808 ≤ x ∧ x ≤ 9223372036854775807
instance (x : Int) : Decidable (inI x) := by unfold inI; infer_instance
def ab (x : Int) : Int := if x < 0 then -x else x
theorem ab_bound {x : Int} (h : inI x) : 0 ≤ ab x ∧ ab x ≤ 9223372036854775808 := by
  unfold ab; unfold inI at h; split <;> omega
theorem ab_pos {x : Int} (h : x ≠ 0) : 0 < ab x := by unfold ab; split <;> omega
theorem ab_zero (x : Int) : ab x = 0 ↔ x = 0 := by unfold ab; split <;> omega
def awayv (mode : Int) (neg : Bool) (q r c : Int) : Bool :=
  decide (r ≠ 0) && (decide (mode = 2) || (decide (mode = 3) && decide (c - r ≤ r)) || (decide (mode = 4) && (decide (c - r < r) || (decide (r = c - r) && decide (q % 2 = 1)))) || (decide (mode = 5) && neg))
def negv (a b c : Int) : Bool := (decide (a * b ≠ 0)) && (((decide (a < 0)) != (decide (b < 0))) != (decide (c < 0)))
def sizev (a b c mode : Int) : Int := ab a * ab b / ab c + if awayv mode (negv a b c) (ab a * ab b / ab c) (ab a * ab b % ab c) (ab c) = true then 1 else 0
def signv (neg : Bool) (size : Int) : Int × Int :=
  if neg = true then (if size > 9223372036854775808 then (0, 4) else (-size, 0)) else (if size ≥ 9223372036854775808 then (0, 4) else (size, 0))
def mdv (a b c mode : Int) : Int × Int :=
  if mode < 1 ∨ mode > 5 then (0, 10) else if c = 0 then (0, 2) else signv (negv a b c) (sizev a b c mode)
def modv (a b c : Int) : Int × Int := if c = 0 then (0, 2) else ((a * b) % ab c, 0)
theorem div_words (P c : Int) (_h0 : 0 ≤ P) (hc : 0 < c) :
    qh (P / 18446744073709551616) c * 18446744073709551616 + ql (P / 18446744073709551616) (P % 18446744073709551616) c = P / c ∧ rm (P / 18446744073709551616) (P % 18446744073709551616) c = P % c := by
  unfold qh ql rm
  have hP : P = (P / 18446744073709551616) * 18446744073709551616 + P % 18446744073709551616 := by omega
  generalize P / 18446744073709551616 = hi at *
  generalize P % 18446744073709551616 = lo at *
  have hh : hi = c * (hi / c) + hi % c := by have := Int.emod_add_mul_ediv hi c; omega
  have e : P = c * (hi / c * 18446744073709551616) + (hi % c * 18446744073709551616 + lo) := by
    rw [hP]
    conv => lhs; rw [hh]
    rw [Int.add_mul, ← Int.mul_assoc]; omega
  rw [e]
  refine ⟨?_, ?_⟩
  · rw [Int.add_comm (c * _), Int.add_mul_ediv_left _ _ (by omega)]; omega
  · rw [Int.mul_add_emod_self_left]
theorem qh_zero (P c : Int) (h0 : 0 ≤ P) (hc : 0 < c) : qh (P / 18446744073709551616) c = 0 ↔ P / c < 18446744073709551616 := by
  have h := (div_words P c h0 hc).1
  have h1 : 0 ≤ qh (P / 18446744073709551616) c := Int.ediv_nonneg (by omega) (by omega)
  have h2 : 0 ≤ ql (P / 18446744073709551616) (P % 18446744073709551616) c ∧ ql (P / 18446744073709551616) (P % 18446744073709551616) c < 18446744073709551616 := by
    unfold ql
    have h3 := Int.emod_nonneg (P / 18446744073709551616) (show c ≠ 0 by omega)
    have h4 := Int.emod_lt_of_pos (P / 18446744073709551616) hc
    refine ⟨Int.ediv_nonneg (by omega) (by omega), ?_⟩
    apply Int.ediv_lt_of_lt_mul hc
    omega
  omega
theorem ctx0 {P c : Int} (h0 : 0 ≤ P) (h1 : P < 18446744073709551616 * 18446744073709551616) (hc : 0 < c) (hc1 : c < 18446744073709551616) : Ctx 0 (P / 18446744073709551616) c ∧ Ctx (P / 18446744073709551616 % c) (P % 18446744073709551616) c :=
  ⟨⟨hc, hc1, by omega, hc, by omega, by omega⟩, ⟨hc, hc1, Int.emod_nonneg _ (by omega), Int.emod_lt_of_pos _ hc, by omega, by omega⟩⟩
theorem prod_ab {a b : Int} (ha : inI a) (hb : inI b) : 0 ≤ ab a * ab b ∧ ab a * ab b < 18446744073709551616 * 18446744073709551616 := by
  have h1 := ab_bound ha; have h2 := ab_bound hb
  refine ⟨Int.mul_nonneg h1.1 h2.1, ?_⟩
  have h4 : ab a * ab b ≤ 9223372036854775808 * ab b := Int.mul_le_mul_of_nonneg_right h1.2 h2.1
  omega
end Go.Proofs.Ytgjpegmhlnabpaa.M.Dv
end
section
namespace Go.Proofs.Ytgjpegmhlnabpaa.M
open Go.RowKit Go.Proofs.YtgjpegmhlnabpaaW.PrintWords Go.Proofs.YtgjpegmhlnabpaaW.PrintLast Go.Proofs.YtgjpegmhlnabpaaW.PrintMore
set_option linter.unusedVariables false
def muldiv_divide.Out (a0 a1 c : Int) (i r q0 q1 : Int) : Prop :=
  (i = 0 ∧ r = 0 ∧ q0 = 0 ∧ q1 = 0) ∨ (i = 1 ∧ r = a0 % c ∧ q0 = Dv.qh a0 c ∧ q1 = 0) ∨ (i = 2 ∧ r = Dv.rm a0 a1 c ∧ q0 = Dv.qh a0 c ∧ q1 = Dv.ql a0 a1 c)
theorem muldiv_divide.w63 (g : Nat) (h : g ≤ 63) : (63 - (g : Int)).toNat = 63 - g := by omega
set_option maxHeartbeats 4000000 in
set_option maxRecDepth 100000 in
theorem muldiv_divide.calls0 (a0 a1 c : Int) (w : World) (hx : 0 < c) (H0 : Aside0 (Dv.Ctx 0 a0 c)) (H1 : Aside0 (Dv.Ctx (a0 % c) a1 c)) :
    Calls Try.prog 40 #[.agg #[.int .u64 a0, .int .u64 a1], .int .u64 c] w fun e w' => e = .returned (.tuple #[.agg #[.int .u64 (Dv.qh a0 c), .int .u64 (Dv.ql a0 a1 c)], .int .u64 (Dv.rm a0 a1 c)]) ∧ Below w.heap.size w w' := by
  have i0 : ∀ W, (Instr.index 75 (.agg #[.int .u64 a0, .int .u64 a1]) (.int .i64 0)).run Try.prog W = .ok (.int .u64 a0) W := fun _ => by kernel_rfl
  have i1 : ∀ W, (Instr.index 75 (.agg #[.int .u64 a0, .int .u64 a1]) (.int .i64 1)).run Try.prog W = .ok (.int .u64 a1) W := fun _ => by kernel_rfl
  have hw0 : 0 ≤ a0 := H0.out.w0
  have hw1 : 0 ≤ a1 := H1.out.w0
  go_enter Try.func40, Try.ntmps40
  go_wp2
  go_step3
  go_wp2
  go_step3
  go_wp2
  go_loopg [5, 11] 2 (fun g s5 s11 wr => ∃ (i r q0 q1 : Int), i + g = 2 ∧ s11 = .int .i64 i ∧ s5 = .int .u64 r ∧ Aside0 (wr.heap[w.heap.size+1]? = some (.cells #[.int .u64 q0, .int .u64 q1] 75 (0, 0))) ∧ Aside0 (Below w.heap.size w wr) ∧ Aside0 (muldiv_divide.Out a0 a1 c i r q0 q1))
  case atStart => exact ⟨0, 0, 0, 0, rfl, rfl, rfl, ⟨by have := blk_new (w.alloc (.cells #[.int .u64 a0, .int .u64 a1] 75)) (.cells #[.int .u64 0, .int .u64 0] 75); simpa using this⟩, ⟨((Below.refl _ _).alloc (Nat.le_refl _) _).alloc (by simp) _⟩, ⟨.inl ⟨rfl, rfl, rfl, rfl⟩⟩⟩
  case round =>
    obtain ⟨i, r, q0, q1, hig, rfl, rfl, hq, hb, HO⟩ := hrel
    have hi : i = 0 ∨ i = 1 ∨ i = 2 := by rcases HO.out with h | h | h <;> omega
    rcases hi with rfl | rfl | rfl
    · obtain rfl : gk = 2 := by omega
      have HI : Aside0 (Dv.Inv 0 a0 c 64 r q0) := ⟨by
        rcases HO.out with h | h | h
        · obtain ⟨_, rfl, h3, h4⟩ := h; rw [h3]; exact Dv.start H0.out
        · omega
        · omega⟩
      have HQ : Aside0 (q1 = 0) := ⟨by
        rcases HO.out with h | h | h
        · exact h.2.2.2
        · omega
        · omega⟩
      clear HO hig
      go_wp2
      go_loopg [5, 8] 64 (fun g2 s5 s8 wy => ∃ (r q : Int), s8 = .int .i64 ((g2 : Int) - 1) ∧ s5 = .int .u64 r ∧ 0 ≤ r ∧ Aside0 (wy.heap[w.heap.size+1]? = some (.cells #[.int .u64 q, .int .u64 q1] 75 (0, 0))) ∧ Aside0 (Below w.heap.size w wy) ∧ Aside0 (Dv.Inv 0 a0 c g2 r q))
      case atStart => exact ⟨r, q0, rfl, rfl, (Dv.r_bound H0.out HI.out).1, hq, hb, HI⟩
      case round =>
        clear hq hb HI
        obtain ⟨r, q, rfl, rfl, hr0, hq, hb, HI⟩ := hrel
        have c0 := blk_cell hq.out 0
        have f0 := blk_frozen hq.out 0
        simp at c0
        cases gk with
        | zero =>
          go_wp2
          go_roundg 1
          case measure => omega
          case rel => exact ⟨1, r, q, q1, rfl, rfl, rfl, hq, hb, ⟨.inr (.inl ⟨rfl, by have := (Dv.fin HI.out H0.out).1; simpa using this, by have := (Dv.fin HI.out H0.out).2; simpa [Dv.qh] using this, HQ.out⟩)⟩⟩
        | succ g =>
          have eb : ((g + 1 : Nat) : Int) - 1 = g := by omega
          rw [eb]
          have hg63 : g ≤ 63 := by have := HI.out.le; omega
          by_cases hr : r = 0
          · subst hr
            by_cases hs : IntKind.u64.wrap (a0 * 2 ^ (63 - g)) = 0
            · have hsb : (IntKind.u64.wrap (a0 * 2 ^ (63 - g)) == 0) = true := beq_iff_eq.2 hs
              have I2 := Dv.rest H0.out HI.out hs
              have HI2 := Aside0.mk I2
              clear hs I2
              have e63 := muldiv_divide.w63 g hg63
              have e1 : ((g : Int) + 1).toNat = g + 1 := by omega
              go_wp2
              go_roundg 1
              case measure => omega
              case rel => exact ⟨1, 0, _, q1, rfl, rfl, rfl, ⟨blk_put hq.out 0 _ rfl⟩, ⟨below_set hb.out (by omega)⟩, ⟨.inr (.inl ⟨rfl, by have := (Dv.fin HI2.out H0.out).1; simpa using this, by have := (Dv.fin HI2.out H0.out).2; simpa [Dv.qh] using this, HQ.out⟩)⟩⟩
            · have hsb : (IntKind.u64.wrap (a0 * 2 ^ (63 - g)) == 0) = false := beq_eq_false_iff_ne.2 hs
              have e63 := muldiv_divide.w63 g hg63
              by_cases ht : c ≤ bits .or .u64 0 (bits .and .u64 (a0 / 2 ^ g) 1)
              · have I2 := Dv.one H0.out HI.out (.inr (by rw [← Dv.next_v H0.out HI.out]; exact ht))
                rw [show IntKind.u64.wrap ((0 : Int) * 2) = 0 from by decide] at I2
                have HI2 := Aside0.mk I2
                clear hs I2
                go_wp2
                go_roundg g
                case measure => omega
                case rel => exact ⟨_, _, by go_num, rfl, (Dv.r_bound H0.out HI2.out).1, ⟨blk_put (blk_put hq.out 0 _ rfl) 0 _ rfl⟩, ⟨below_set (below_set hb.out (by omega)) (by omega)⟩, HI2⟩
              · have I2 := Dv.zero H0.out HI.out (by omega) (by rw [← Dv.next_v H0.out HI.out]; exact Int.lt_of_not_ge ht)
                rw [show IntKind.u64.wrap ((0 : Int) * 2) = 0 from by decide] at I2
                have HI2 := Aside0.mk I2
                clear hs I2
                go_wp2
                go_roundg g
                case measure => omega
                case rel => exact ⟨_, _, by go_num, rfl, (Dv.r_bound H0.out HI2.out).1, ⟨blk_put hq.out 0 _ rfl⟩, ⟨below_set hb.out (by omega)⟩, HI2⟩
          · have hrb : (r == 0) = false := beq_eq_false_iff_ne.2 hr
            by_cases hk : r / 9223372036854775808 = 1
            · have hkb : (r / 9223372036854775808 == 1) = true := beq_iff_eq.2 hk
              have I2 := Dv.one H0.out HI.out (.inl (by omega))
              have HI2 := Aside0.mk I2
              clear hr hk I2
              go_wp2
              go_roundg g
              case measure => omega
              case rel => exact ⟨_, _, by go_num, rfl, (Dv.r_bound H0.out HI2.out).1, ⟨blk_put (blk_put hq.out 0 _ rfl) 0 _ rfl⟩, ⟨below_set (below_set hb.out (by omega)) (by omega)⟩, HI2⟩
            · have hkb : (r / 9223372036854775808 == 1) = false := beq_eq_false_iff_ne.2 hk
              have hlt : r < 9223372036854775808 := by have := (Dv.r_bound H0.out HI.out).2; have := H0.out.c1; omega
              by_cases ht : c ≤ bits .or .u64 (IntKind.u64.wrap (r * 2)) (bits .and .u64 (a0 / 2 ^ g) 1)
              · have I2 := Dv.one H0.out HI.out (.inr (by rw [← Dv.next_v H0.out HI.out]; exact ht))
                have HI2 := Aside0.mk I2
                have htb : decide (bits .or .u64 (IntKind.u64.wrap (r * 2)) (bits .and .u64 (a0 / 2 ^ g) 1) ≥ c) = true := decide_eq_true ht
                clear hr hk I2 hlt ht
                go_wp2
                go_roundg g
                case measure => omega
                case rel => exact ⟨_, _, by go_num, rfl, (Dv.r_bound H0.out HI2.out).1, ⟨blk_put (blk_put hq.out 0 _ rfl) 0 _ rfl⟩, ⟨below_set (below_set hb.out (by omega)) (by omega)⟩, HI2⟩
              · have I2 := Dv.zero H0.out HI.out hlt (by rw [← Dv.next_v H0.out HI.out]; exact Int.lt_of_not_ge ht)
                have HI2 := Aside0.mk I2
                have htb : decide (bits .or .u64 (IntKind.u64.wrap (r * 2)) (bits .and .u64 (a0 / 2 ^ g) 1) ≥ c) = false := decide_eq_false ht
                clear hr hk I2 hlt ht
                go_wp2
                go_roundg g
                case measure => omega
                case rel => exact ⟨_, _, by go_num, rfl, (Dv.r_bound H0.out HI2.out).1, ⟨blk_put hq.out 0 _ rfl⟩, ⟨below_set hb.out (by omega)⟩, HI2⟩
    · obtain rfl : gk = 1 := by omega
      have HI : Aside0 (Dv.Inv (a0 % c) a1 c 64 r q1) := ⟨by
        rcases HO.out with h | h | h
        · omega
        · obtain ⟨_, rfl, h3, h4⟩ := h; rw [h4]; exact Dv.start H1.out
        · omega⟩
      have HQ : Aside0 (q0 = Dv.qh a0 c) := ⟨by
        rcases HO.out with h | h | h
        · omega
        · exact h.2.2.1
        · omega⟩
      clear HO hig
      go_wp2
      go_loopg [5, 8] 64 (fun g2 s5 s8 wy => ∃ (r q : Int), s8 = .int .i64 ((g2 : Int) - 1) ∧ s5 = .int .u64 r ∧ 0 ≤ r ∧ Aside0 (wy.heap[w.heap.size+1]? = some (.cells #[.int .u64 q0, .int .u64 q] 75 (0, 0))) ∧ Aside0 (Below w.heap.size w wy) ∧ Aside0 (Dv.Inv (a0 % c) a1 c g2 r q))
      case atStart => exact ⟨r, q1, rfl, rfl, (Dv.r_bound H1.out HI.out).1, hq, hb, HI⟩
      case round =>
        clear hq hb HI
        obtain ⟨r, q, rfl, rfl, hr0, hq, hb, HI⟩ := hrel
        have c0 := blk_cell hq.out 1
        have f0 := blk_frozen hq.out 1
        simp at c0
        cases gk with
        | zero =>
          go_wp2
          go_roundg 0
          case measure => omega
          case rel => exact ⟨2, r, q0, q, rfl, rfl, rfl, hq, hb, ⟨.inr (.inr ⟨rfl, (Dv.fin HI.out H1.out).1, HQ.out, (Dv.fin HI.out H1.out).2⟩)⟩⟩
        | succ g =>
          have eb : ((g + 1 : Nat) : Int) - 1 = g := by omega
          rw [eb]
          have hg63 : g ≤ 63 := by have := HI.out.le; omega
          by_cases hr : r = 0
          · subst hr
            by_cases hs : IntKind.u64.wrap (a1 * 2 ^ (63 - g)) = 0
            · have hsb : (IntKind.u64.wrap (a1 * 2 ^ (63 - g)) == 0) = true := beq_iff_eq.2 hs
              have I2 := Dv.rest H1.out HI.out hs
              have HI2 := Aside0.mk I2
              clear hs I2
              have e63 := muldiv_divide.w63 g hg63
              have e1 : ((g : Int) + 1).toNat = g + 1 := by omega
              go_wp2
              go_roundg 0
              case measure => omega
              case rel => exact ⟨2, 0, q0, _, rfl, rfl, rfl, ⟨blk_put hq.out 1 _ rfl⟩, ⟨below_set hb.out (by omega)⟩, ⟨.inr (.inr ⟨rfl, (Dv.fin HI2.out H1.out).1, HQ.out, (Dv.fin HI2.out H1.out).2⟩)⟩⟩
            · have hsb : (IntKind.u64.wrap (a1 * 2 ^ (63 - g)) == 0) = false := beq_eq_false_iff_ne.2 hs
              have e63 := muldiv_divide.w63 g hg63
              by_cases ht : c ≤ bits .or .u64 0 (bits .and .u64 (a1 / 2 ^ g) 1)
              · have I2 := Dv.one H1.out HI.out (.inr (by rw [← Dv.next_v H1.out HI.out]; exact ht))
                rw [show IntKind.u64.wrap ((0 : Int) * 2) = 0 from by decide] at I2
                have HI2 := Aside0.mk I2
                clear hs I2
                go_wp2
                go_roundg g
                case measure => omega
                case rel => exact ⟨_, _, by go_num, rfl, (Dv.r_bound H1.out HI2.out).1, ⟨blk_put (blk_put hq.out 1 _ rfl) 1 _ rfl⟩, ⟨below_set (below_set hb.out (by omega)) (by omega)⟩, HI2⟩
              · have I2 := Dv.zero H1.out HI.out (by omega) (by rw [← Dv.next_v H1.out HI.out]; exact Int.lt_of_not_ge ht)
                rw [show IntKind.u64.wrap ((0 : Int) * 2) = 0 from by decide] at I2
                have HI2 := Aside0.mk I2
                clear hs I2
                go_wp2
                go_roundg g
                case measure => omega
                case rel => exact ⟨_, _, by go_num, rfl, (Dv.r_bound H1.out HI2.out).1, ⟨blk_put hq.out 1 _ rfl⟩, ⟨below_set hb.out (by omega)⟩, HI2⟩
          · have hrb : (r == 0) = false := beq_eq_false_iff_ne.2 hr
            by_cases hk : r / 9223372036854775808 = 1
            · have hkb : (r / 9223372036854775808 == 1) = true := beq_iff_eq.2 hk
              have I2 := Dv.one H1.out HI.out (.inl (by omega))
              have HI2 := Aside0.mk I2
              clear hr hk I2
              go_wp2
              go_roundg g
              case measure => omega
              case rel => exact ⟨_, _, by go_num, rfl, (Dv.r_bound H1.out HI2.out).1, ⟨blk_put (blk_put hq.out 1 _ rfl) 1 _ rfl⟩, ⟨below_set (below_set hb.out (by omega)) (by omega)⟩, HI2⟩
            · have hkb : (r / 9223372036854775808 == 1) = false := beq_eq_false_iff_ne.2 hk
              have hlt : r < 9223372036854775808 := by have := (Dv.r_bound H1.out HI.out).2; have := H1.out.c1; omega
              by_cases ht : c ≤ bits .or .u64 (IntKind.u64.wrap (r * 2)) (bits .and .u64 (a1 / 2 ^ g) 1)
              · have I2 := Dv.one H1.out HI.out (.inr (by rw [← Dv.next_v H1.out HI.out]; exact ht))
                have HI2 := Aside0.mk I2
                have htb : decide (bits .or .u64 (IntKind.u64.wrap (r * 2)) (bits .and .u64 (a1 / 2 ^ g) 1) ≥ c) = true := decide_eq_true ht
                clear hr hk I2 hlt ht
                go_wp2
                go_roundg g
                case measure => omega
                case rel => exact ⟨_, _, by go_num, rfl, (Dv.r_bound H1.out HI2.out).1, ⟨blk_put (blk_put hq.out 1 _ rfl) 1 _ rfl⟩, ⟨below_set (below_set hb.out (by omega)) (by omega)⟩, HI2⟩
              · have I2 := Dv.zero H1.out HI.out hlt (by rw [← Dv.next_v H1.out HI.out]; exact Int.lt_of_not_ge ht)
                have HI2 := Aside0.mk I2
                have htb : decide (bits .or .u64 (IntKind.u64.wrap (r * 2)) (bits .and .u64 (a1 / 2 ^ g) 1) ≥ c) = false := decide_eq_false ht
                clear hr hk I2 hlt ht
                go_wp2
                go_roundg g
                case measure => omega
                case rel => exact ⟨_, _, by go_num, rfl, (Dv.r_bound H1.out HI2.out).1, ⟨blk_put hq.out 1 _ rfl⟩, ⟨below_set hb.out (by omega)⟩, HI2⟩
    · have hlt : ¬ ((2 : Int) < 2) := by omega
      have c0 := blk_cell hq.out 0
      have c1 := blk_cell hq.out 1
      have f0 := blk_frozen hq.out 0
      have f1 := blk_frozen hq.out 1
      simp at c0 c1
      go_wp2
      obtain ⟨_, rfl, rfl, rfl⟩ : (2 : Int) = 2 ∧ r = Dv.rm a0 a1 c ∧ q0 = Dv.qh a0 c ∧ q1 = Dv.ql a0 a1 c := by
        rcases HO.out with h | h | h
        · omega
        · omega
        · exact h
      refine bodyPost_ret (results_ct rfl _ _ (w.heap.size + 1) 75 #[.int .u64 (Dv.qh a0 c), .int .u64 (Dv.ql a0 a1 c)] (0, 0) _ rfl (by first | exact hq.out | exact blk_put (blk_put hq.out 0 _ rfl) 1 _ rfl) Try.underlying75 rfl (by kernel_rfl)) rfl ?_
      exact ⟨rfl, by first | exact hb.out | exact below_set (below_set hb.out (by omega)) (by omega)⟩
def muldiv_divide.f (a0 a1 a2 : Int) : Option (Int × Int × Int) :=
  if 0 < a2 ∧ a2 < 18446744073709551616 ∧ 0 ≤ a0 ∧ a0 < 18446744073709551616 ∧ 0 ≤ a1 ∧ a1 < 18446744073709551616 then some (Dv.qh a0 a2, Dv.ql a0 a1 a2, Dv.rm a0 a1 a2) else none
theorem muldiv_divide.calls (a0 a1 a2 : Int) (r1 r2 r3 : Int) (w : World) (h : muldiv_divide.f a0 a1 a2 = some (r1, r2, r3)) :
    Calls Try.prog 40 #[.agg #[.int .u64 a0, .int .u64 a1], .int .u64 a2] w fun e w' => e = .returned (.tuple #[.agg #[.int .u64 r1, .int .u64 r2], .int .u64 r3]) ∧ Below w.heap.size w w' := by
  unfold muldiv_divide.f at h
  split at h
  · rename_i hc
    simp only [Option.some.injEq, Prod.mk.injEq] at h
    obtain ⟨rfl, rfl, rfl⟩ := h
    exact muldiv_divide.calls0 a0 a1 a2 w hc.1 ⟨⟨hc.1, hc.2.1, by omega, hc.1, by omega, by omega⟩⟩ ⟨⟨hc.1, hc.2.1, Int.emod_nonneg _ (by omega), Int.emod_lt_of_pos _ hc.1, by omega, by omega⟩⟩
  · cases h
end Go.Proofs.Ytgjpegmhlnabpaa.M
end
section
-- Written by mprint.py (a program of this session) over the kit's print.
namespace Go.Proofs.Ytgjpegmhlnabpaa.M
open Go.RowKit Go.Proofs.YtgjpegmhlnabpaaW.PrintWords Go.Proofs.YtgjpegmhlnabpaaW.PrintLast Go.Proofs.YtgjpegmhlnabpaaW.PrintMore
attribute [local go_sem] max2_int min2_int max_two min_two max_three min_three max_four min_four   -- for this text's walks alone
set_option linter.unusedVariables false
set_option linter.unusedSimpArgs false
theorem eqA75 (d : Nat) (w : World) (x0 y0 : Int) (x1 y1 : Int) :
    (Op.equalIn (d + 2) 75 (.agg #[.int .u64 x0, .int .u64 x1]) (.agg #[.int .u64 y0, .int .u64 y1])).run Try.prog w = .ok (x0 == y0 && (x1 == y1)) w := by
  have hu := Try.underlying75
  have hu2 := Try.underlying73
  rw [Op.equalIn]
  simp only [Sem.run_bind, run_underlying hu, Result.andThen_ok]
  have hs : ∀ w, (sizeOf 73).run Try.prog w = .ok 1 w := fun w => by kernel_rfl
  have e : ∀ (a b : Int) w, (Op.equalIn (d+1) 73 (.int .u64 a) (.int .u64 b)).run Try.prog w = .ok (a == b) w := fun a b w => by
    rw [Op.equalIn]
    simp [Sem.run_bind, run_underlying hu2]
  have p0 : ∀ (z0 : Int) (z1 : Int) w, (part 73 #[.int .u64 z0, .int .u64 z1] 0).run Try.prog w = .ok (.int .u64 z0) w := fun z0 z1 w => by go_simp
  have p1 : ∀ (z0 : Int) (z1 : Int) w, (part 73 #[.int .u64 z0, .int .u64 z1] 1).run Try.prog w = .ok (.int .u64 z1) w := fun z0 z1 w => by go_simp
  simp only [hs, Result.andThen_ok, Std.Legacy.Range.forIn_eq_forIn_range']
  simp only [Std.Legacy.Range.size, List.range']
  cases h0 : (x0 == y0) <;> cases h1 : (x1 == y1) <;> simp [p0, p1, e, Sem.run_bind, h0, h1]
end Go.Proofs.Ytgjpegmhlnabpaa.M
end
section
-- Written by mprint.py (a program of this session) over the kit's print.
namespace Go.Proofs.Ytgjpegmhlnabpaa.M
open Go.RowKit Go.Proofs.YtgjpegmhlnabpaaW.PrintWords Go.Proofs.YtgjpegmhlnabpaaW.PrintLast Go.Proofs.YtgjpegmhlnabpaaW.PrintMore
attribute [local go_sem] max2_int min2_int max_two min_two max_three min_three max_four min_four   -- for this text's walks alone
set_option linter.unusedVariables false
set_option linter.unusedSimpArgs false
/-! ### muldiv_multiply: function 38 -/
def muldiv_multiply.f (a0 : Int) (a1 : Int) : Option (Int × Int) := some (IntKind.u64.wrap ((IntKind.u64.wrap ((IntKind.u64.wrap ((a0 / 4294967296) * (a1 / 4294967296))) + ((IntKind.u64.wrap ((IntKind.u64.wrap ((a0 / 4294967296) * (Go.bits .and .u64 a1 4294967295))) + ((IntKind.u64.wrap ((Go.bits .and .u64 a0 4294967295) * (Go.bits .and .u64 a1 4294967295))) / 4294967296))) / 4294967296))) + ((IntKind.u64.wrap ((IntKind.u64.wrap ((Go.bits .and .u64 a0 4294967295) * (a1 / 4294967296))) + (Go.bits .and .u64 (IntKind.u64.wrap ((IntKind.u64.wrap ((a0 / 4294967296) * (Go.bits .and .u64 a1 4294967295))) + ((IntKind.u64.wrap ((Go.bits .and .u64 a0 4294967295) * (Go.bits .and .u64 a1 4294967295))) / 4294967296))) 4294967295))) / 4294967296)), Go.bits .or .u64 (IntKind.u64.wrap ((IntKind.u64.wrap ((IntKind.u64.wrap ((Go.bits .and .u64 a0 4294967295) * (a1 / 4294967296))) + (Go.bits .and .u64 (IntKind.u64.wrap ((IntKind.u64.wrap ((a0 / 4294967296) * (Go.bits .and .u64 a1 4294967295))) + ((IntKind.u64.wrap ((Go.bits .and .u64 a0 4294967295) * (Go.bits .and .u64 a1 4294967295))) / 4294967296))) 4294967295))) * 4294967296)) (Go.bits .and .u64 (IntKind.u64.wrap ((Go.bits .and .u64 a0 4294967295) * (Go.bits .and .u64 a1 4294967295))) 4294967295))
set_option maxHeartbeats 8000000 in
set_option maxRecDepth 100000 in
theorem muldiv_multiply.calls (a0 : Int) (a1 : Int) (r1 : Int) (r2 : Int) (w : World) (h : muldiv_multiply.f a0 a1 = some (r1, r2)) :
    Calls Try.prog 38 #[.int .u64 a0, .int .u64 a1] w fun e w' => e = .returned (.agg #[.int .u64 r1, .int .u64 r2]) ∧ Below w.heap.size w w' := by
 have hu75 := Try.underlying75
 have HB := Aside0.mk (Below.refl w.heap.size w)
 have H : (some (IntKind.u64.wrap ((IntKind.u64.wrap ((IntKind.u64.wrap ((a0 / 4294967296) * (a1 / 4294967296))) + ((IntKind.u64.wrap ((IntKind.u64.wrap ((a0 / 4294967296) * (Go.bits .and .u64 a1 4294967295))) + ((IntKind.u64.wrap ((Go.bits .and .u64 a0 4294967295) * (Go.bits .and .u64 a1 4294967295))) / 4294967296))) / 4294967296))) + ((IntKind.u64.wrap ((IntKind.u64.wrap ((Go.bits .and .u64 a0 4294967295) * (a1 / 4294967296))) + (Go.bits .and .u64 (IntKind.u64.wrap ((IntKind.u64.wrap ((a0 / 4294967296) * (Go.bits .and .u64 a1 4294967295))) + ((IntKind.u64.wrap ((Go.bits .and .u64 a0 4294967295) * (Go.bits .and .u64 a1 4294967295))) / 4294967296))) 4294967295))) / 4294967296)), Go.bits .or .u64 (IntKind.u64.wrap ((IntKind.u64.wrap ((IntKind.u64.wrap ((Go.bits .and .u64 a0 4294967295) * (a1 / 4294967296))) + (Go.bits .and .u64 (IntKind.u64.wrap ((IntKind.u64.wrap ((a0 / 4294967296) * (Go.bits .and .u64 a1 4294967295))) + ((IntKind.u64.wrap ((Go.bits .and .u64 a0 4294967295) * (Go.bits .and .u64 a1 4294967295))) / 4294967296))) 4294967295))) * 4294967296)) (Go.bits .and .u64 (IntKind.u64.wrap ((Go.bits .and .u64 a0 4294967295) * (Go.bits .and .u64 a1 4294967295))) 4294967295))) = some (r1, r2) := h
 clear h
 simp only [Option.some.injEq, Prod.mk.injEq] at H
 obtain ⟨rfl, rfl⟩ := H
 go_enter Try.func38, Try.ntmps38
 go_wp2_with (first | ((with_reducible refine gate_dst (N := 4) rfl ?_); refine box_event ?hg (N := 4) ?hd (cs := #[.int .u64 0, .int .u64 0]) (t := 75) ?hr ?_; (case hd => rfl); (case hg => rfl); (case hr => first | (go_simp; done) | (go_simp; rfl)); intro gb101 hg w3 hbox hb; have n0_ := Aside0.mk (below_step (by repeat (first | (with_reducible first | exact HB.out | apply below_alloc | apply pw_below_drewN | apply below_drew1) | exact HB.out)) hb); have n1_ := Aside0.mk (hbox); have n2_ := Aside0.mk ((by rw [hg]; exact (below_size (by repeat (first | (with_reducible first | exact HB.out | apply below_alloc | apply pw_below_drewN | apply below_drew1) | exact HB.out))) : w.heap.size ≤ gb101)); have n3_ := Aside0.mk ((by rw [hg]; exact (below_size (by repeat (first | (with_reducible first | exact HB.out | apply below_alloc | apply pw_below_drewN | apply below_drew1) | exact HB.out))) : w.heap.size ≤ gb101)); clear HB; have HB := n0_; have BK101 := n1_; have GW101 := n2_; have GE101 := n3_; clear n0_ n1_ n2_ n3_; clear hb hbox hg; have hcz4_0 : w3.cell? ⟨gb101, 0, none⟩ = some (.int .u64 0) := (blk_cell BK101.out 0).trans rfl; have hcz4_1 : w3.cell? ⟨gb101, 1, none⟩ = some (.int .u64 0) := (blk_cell BK101.out 1).trans rfl; have hfz4_0 := blk_frozen BK101.out 0; have hfz4_1 := blk_frozen BK101.out 1))
 refine bodyPost_ret (results_cell_row rfl _ _ gb101 75 #[.int .u64 (IntKind.u64.wrap ((IntKind.u64.wrap ((IntKind.u64.wrap ((a0 / 4294967296) * (a1 / 4294967296))) + ((IntKind.u64.wrap ((IntKind.u64.wrap ((a0 / 4294967296) * (Go.bits .and .u64 a1 4294967295))) + ((IntKind.u64.wrap ((Go.bits .and .u64 a0 4294967295) * (Go.bits .and .u64 a1 4294967295))) / 4294967296))) / 4294967296))) + ((IntKind.u64.wrap ((IntKind.u64.wrap ((Go.bits .and .u64 a0 4294967295) * (a1 / 4294967296))) + (Go.bits .and .u64 (IntKind.u64.wrap ((IntKind.u64.wrap ((a0 / 4294967296) * (Go.bits .and .u64 a1 4294967295))) + ((IntKind.u64.wrap ((Go.bits .and .u64 a0 4294967295) * (Go.bits .and .u64 a1 4294967295))) / 4294967296))) 4294967295))) / 4294967296))), .int .u64 (Go.bits .or .u64 (IntKind.u64.wrap ((IntKind.u64.wrap ((IntKind.u64.wrap ((Go.bits .and .u64 a0 4294967295) * (a1 / 4294967296))) + (Go.bits .and .u64 (IntKind.u64.wrap ((IntKind.u64.wrap ((a0 / 4294967296) * (Go.bits .and .u64 a1 4294967295))) + ((IntKind.u64.wrap ((Go.bits .and .u64 a0 4294967295) * (Go.bits .and .u64 a1 4294967295))) / 4294967296))) 4294967295))) * 4294967296)) (Go.bits .and .u64 (IntKind.u64.wrap ((Go.bits .and .u64 a0 4294967295) * (Go.bits .and .u64 a1 4294967295))) 4294967295))] (0, 0) _ rfl (by (with_reducible repeat (first | refine blk_drewN ?_ _ | refine blk_drew ?_ | refine blk_alloc ?_ _)); refine blk_put (cs := #[.int .u64 (IntKind.u64.wrap ((IntKind.u64.wrap ((IntKind.u64.wrap ((a0 / 4294967296) * (a1 / 4294967296))) + ((IntKind.u64.wrap ((IntKind.u64.wrap ((a0 / 4294967296) * (Go.bits .and .u64 a1 4294967295))) + ((IntKind.u64.wrap ((Go.bits .and .u64 a0 4294967295) * (Go.bits .and .u64 a1 4294967295))) / 4294967296))) / 4294967296))) + ((IntKind.u64.wrap ((IntKind.u64.wrap ((Go.bits .and .u64 a0 4294967295) * (a1 / 4294967296))) + (Go.bits .and .u64 (IntKind.u64.wrap ((IntKind.u64.wrap ((a0 / 4294967296) * (Go.bits .and .u64 a1 4294967295))) + ((IntKind.u64.wrap ((Go.bits .and .u64 a0 4294967295) * (Go.bits .and .u64 a1 4294967295))) / 4294967296))) 4294967295))) / 4294967296))), .int .u64 0]) ?_ 1 _ rfl; (with_reducible repeat (first | refine blk_drewN ?_ _ | refine blk_drew ?_ | refine blk_alloc ?_ _)); refine blk_put (cs := #[.int .u64 0, .int .u64 0]) ?_ 0 _ rfl; (with_reducible repeat (first | refine blk_drewN ?_ _ | refine blk_drew ?_ | refine blk_alloc ?_ _)); exact BK101.out) Try.underlying75 rfl (by kernel_rfl)) rfl ?_
 exact ⟨by first | rfl | (simp [errW_none, errW_some] <;> rfl) | (simp [*, errW_none, errW_some] <;> rfl), by repeat (first | (with_reducible first | exact HB.out | apply below_alloc | apply pw_below_drewN | apply below_drew1 | refine below_set ?_ GE101.out) | exact HB.out)⟩
end Go.Proofs.Ytgjpegmhlnabpaa.M
end
section
-- Written by mprint.py (a program of this session) over the kit's print.
namespace Go.Proofs.Ytgjpegmhlnabpaa.M
open Go.RowKit Go.Proofs.YtgjpegmhlnabpaaW.PrintWords Go.Proofs.YtgjpegmhlnabpaaW.PrintLast Go.Proofs.YtgjpegmhlnabpaaW.PrintMore
attribute [local go_sem] max2_int min2_int max_two min_two max_three min_three max_four min_four   -- for this text's walks alone
set_option linter.unusedVariables false
set_option linter.unusedSimpArgs false
/-! ### muldiv_magnitude: function 39 -/
def muldiv_magnitude.f (a0 : Int) : Option (Int) := if a0 < 0 then (some (IntKind.u64.wrap (-(IntKind.u64.wrap (a0))))) else (some (IntKind.u64.wrap (a0)))
set_option maxHeartbeats 8000000 in
set_option maxRecDepth 100000 in
theorem muldiv_magnitude.calls (a0 : Int) (r : Int) (w : World) (h : muldiv_magnitude.f a0 = some r) :
    Calls Try.prog 39 #[.int .i64 a0] w fun e w' => e = .returned (.int .u64 r) ∧ Drawn0 w w' := by
 have H : (if a0 < 0 then (some (IntKind.u64.wrap (-(IntKind.u64.wrap (a0))))) else (some (IntKind.u64.wrap (a0)))) = some r := h
 clear h
 by_cases c2 : a0 < 0
 ·rw [if_pos c2] at H
  have c2b0 : decide (a0 < 0) = true := decide_eq_true c2
  clear c2
  obtain rfl := Option.some.inj H
  go_enter Try.func39, Try.ntmps39
  go_wp2
  go_ret
  exact ⟨by first | rfl | (simp; done) | (simp [*]; done), by repeat (first | exact Drawn0.refl _ | apply Drawn0.step)⟩
 ·rw [if_neg c2] at H
  have c2b0 : decide (a0 < 0) = false := decide_eq_false c2
  clear c2
  obtain rfl := Option.some.inj H
  go_enter Try.func39, Try.ntmps39
  go_wp2
  go_ret
  exact ⟨by first | rfl | (simp; done) | (simp [*]; done), by repeat (first | exact Drawn0.refl _ | apply Drawn0.step)⟩
end Go.Proofs.Ytgjpegmhlnabpaa.M
end
section
-- Written by mprint.py (a program of this session) over the kit's print.
namespace Go.Proofs.Ytgjpegmhlnabpaa.M
open Go.RowKit Go.Proofs.YtgjpegmhlnabpaaW.PrintWords Go.Proofs.YtgjpegmhlnabpaaW.PrintLast Go.Proofs.YtgjpegmhlnabpaaW.PrintMore
attribute [local go_sem] max2_int min2_int max_two min_two max_three min_three max_four min_four   -- for this text's walks alone
set_option linter.unusedVariables false
set_option linter.unusedSimpArgs false
/-! ### muldiv_away: function 41 -/
def muldiv_away.f (a0 : Int) (a1 : Bool) (a2 : Bool) (a3 : Int) (a4 : Int) : Option (Bool) := if a3 = 0 then (some false) else (if a0 = 2 then (some true) else (if a0 = 3 then (some (decide (a3 ≥ (IntKind.u64.wrap (a4 - a3))))) else (if a0 = 4 then (if a3 > (IntKind.u64.wrap (a4 - a3)) then (some true) else (if a3 = (IntKind.u64.wrap (a4 - a3)) then (some a2) else (some false))) else (if a0 = 5 then (some a1) else (some false)))))
set_option maxHeartbeats 8000000 in
set_option maxRecDepth 100000 in
theorem muldiv_away.calls (a0 : Int) (a1 : Bool) (a2 : Bool) (a3 : Int) (a4 : Int) (r : Bool) (w : World) (h : muldiv_away.f a0 a1 a2 a3 a4 = some r) :
    Calls Try.prog 41 #[.int .i64 a0, .bool a1, .bool a2, .int .u64 a3, .int .u64 a4] w fun e w' => e = .returned (.bool r) ∧ Drawn0 w w' := by
 have H : (if a3 = 0 then (some false) else (if a0 = 2 then (some true) else (if a0 = 3 then (some (decide (a3 ≥ (IntKind.u64.wrap (a4 - a3))))) else (if a0 = 4 then (if a3 > (IntKind.u64.wrap (a4 - a3)) then (some true) else (if a3 = (IntKind.u64.wrap (a4 - a3)) then (some a2) else (some false))) else (if a0 = 5 then (some a1) else (some false)))))) = some r := h
 clear h
 by_cases c6 : a3 = 0
 ·rw [if_pos c6] at H
  have c6b0 : (a3 == 0) = true := beq_iff_eq.mpr c6
  have c6b1 : (a3 != 0) = false := bne_eq_false_iff_eq.mpr c6
  clear c6
  obtain rfl := Option.some.inj H
  go_enter Try.func41, Try.ntmps41
  go_wp2
  go_ret
  exact ⟨by first | rfl | (simp; done) | (simp [*]; done), by repeat (first | exact Drawn0.refl _ | apply Drawn0.step)⟩
 ·rw [if_neg c6] at H
  have c6b0 : (a3 == 0) = false := beq_eq_false_iff_ne.mpr c6
  have c6b1 : (a3 != 0) = true := bne_iff_ne.mpr c6
  by_cases c7 : a0 = 2
  ·rw [if_pos c7] at H
   have c7b0 : (a0 == 2) = true := beq_iff_eq.mpr c7
   have c7b1 : (a0 != 2) = false := bne_eq_false_iff_eq.mpr c7
   clear c7
   obtain rfl := Option.some.inj H
   go_enter Try.func41, Try.ntmps41
   go_wp2
   go_ret
   exact ⟨by first | rfl | (simp; done) | (simp [*]; done), by repeat (first | exact Drawn0.refl _ | apply Drawn0.step)⟩
  ·rw [if_neg c7] at H
   have c7b0 : (a0 == 2) = false := beq_eq_false_iff_ne.mpr c7
   have c7b1 : (a0 != 2) = true := bne_iff_ne.mpr c7
   by_cases c8 : a0 = 3
   ·rw [if_pos c8] at H
    have c8b0 : (a0 == 3) = true := beq_iff_eq.mpr c8
    have c8b1 : (a0 != 3) = false := bne_eq_false_iff_eq.mpr c8
    clear c8
    obtain rfl := Option.some.inj H
    go_enter Try.func41, Try.ntmps41
    go_wp2
    go_ret
    exact ⟨by first | rfl | (simp; done) | (simp [*]; done), by repeat (first | exact Drawn0.refl _ | apply Drawn0.step)⟩
   ·rw [if_neg c8] at H
    have c8b0 : (a0 == 3) = false := beq_eq_false_iff_ne.mpr c8
    have c8b1 : (a0 != 3) = true := bne_iff_ne.mpr c8
    by_cases c9 : a0 = 4
    ·rw [if_pos c9] at H
     have c9b0 : (a0 == 4) = true := beq_iff_eq.mpr c9
     have c9b1 : (a0 != 4) = false := bne_eq_false_iff_eq.mpr c9
     clear c9
     by_cases c10 : a3 > (IntKind.u64.wrap (a4 - a3))
     ·rw [if_pos c10] at H
      have c10b0 : decide ((IntKind.u64.wrap (a4 - a3)) < a3) = true := decide_eq_true c10
      clear c10
      obtain rfl := Option.some.inj H
      go_enter Try.func41, Try.ntmps41
      go_wp2
      go_ret
      exact ⟨by first | rfl | (simp; done) | (simp [*]; done), by repeat (first | exact Drawn0.refl _ | apply Drawn0.step)⟩
     ·rw [if_neg c10] at H
      have c10b0 : decide ((IntKind.u64.wrap (a4 - a3)) < a3) = false := decide_eq_false c10
      clear c10
      by_cases c11 : a3 = (IntKind.u64.wrap (a4 - a3))
      ·rw [if_pos c11] at H
       have c11b0 : (a3 == (IntKind.u64.wrap (a4 - a3))) = true := beq_iff_eq.mpr c11
       have c11b1 : (a3 != (IntKind.u64.wrap (a4 - a3))) = false := bne_eq_false_iff_eq.mpr c11
       clear c11
       obtain rfl := Option.some.inj H
       go_enter Try.func41, Try.ntmps41
       go_wp2
       go_ret
       exact ⟨by first | rfl | (simp; done) | (simp [*]; done), by repeat (first | exact Drawn0.refl _ | apply Drawn0.step)⟩
      ·rw [if_neg c11] at H
       have c11b0 : (a3 == (IntKind.u64.wrap (a4 - a3))) = false := beq_eq_false_iff_ne.mpr c11
       have c11b1 : (a3 != (IntKind.u64.wrap (a4 - a3))) = true := bne_iff_ne.mpr c11
       obtain rfl := Option.some.inj H
       go_enter Try.func41, Try.ntmps41
       go_wp2
       go_ret
       exact ⟨by first | rfl | (simp; done) | (simp [*]; done), by repeat (first | exact Drawn0.refl _ | apply Drawn0.step)⟩
    ·rw [if_neg c9] at H
     have c9b0 : (a0 == 4) = false := beq_eq_false_iff_ne.mpr c9
     have c9b1 : (a0 != 4) = true := bne_iff_ne.mpr c9
     by_cases c12 : a0 = 5
     ·rw [if_pos c12] at H
      have c12b0 : (a0 == 5) = true := beq_iff_eq.mpr c12
      have c12b1 : (a0 != 5) = false := bne_eq_false_iff_eq.mpr c12
      clear c12
      obtain rfl := Option.some.inj H
      go_enter Try.func41, Try.ntmps41
      go_wp2
      go_ret
      exact ⟨by first | rfl | (simp; done) | (simp [*]; done), by repeat (first | exact Drawn0.refl _ | apply Drawn0.step)⟩
     ·rw [if_neg c12] at H
      have c12b0 : (a0 == 5) = false := beq_eq_false_iff_ne.mpr c12
      have c12b1 : (a0 != 5) = true := bne_iff_ne.mpr c12
      obtain rfl := Option.some.inj H
      go_enter Try.func41, Try.ntmps41
      go_wp2
      go_ret
      exact ⟨by first | rfl | (simp; done) | (simp [*]; done), by repeat (first | exact Drawn0.refl _ | apply Drawn0.step)⟩
end Go.Proofs.Ytgjpegmhlnabpaa.M
end
section
-- Written by mprint.py (a program of this session) over the kit's print.
namespace Go.Proofs.Ytgjpegmhlnabpaa.M
open Go.RowKit Go.Proofs.YtgjpegmhlnabpaaW.PrintWords Go.Proofs.YtgjpegmhlnabpaaW.PrintLast Go.Proofs.YtgjpegmhlnabpaaW.PrintMore
attribute [local go_sem] max2_int min2_int max_two min_two max_three min_three max_four min_four   -- for this text's walks alone
set_option linter.unusedVariables false
set_option linter.unusedSimpArgs false
/-! ### muldiv_signed: function 42 -/
def muldiv_signed.f (a0 : Bool) (a1 : Int) : Option (Int × Int) := if a0 = true then (if a1 > 9223372036854775808 then (some (0, 4)) else (some (wrap64 ((wrap64 (-(wrap64 (IntKind.u64.wrap (a1 - 1))))) - 1), 0))) else (if a1 ≥ 9223372036854775808 then (some (0, 4)) else (some (wrap64 (a1), 0)))
set_option maxHeartbeats 8000000 in
set_option maxRecDepth 100000 in
theorem muldiv_signed.calls (a0 : Bool) (a1 : Int) (r1 : Int) (r2 : Int) (w : World) (h : muldiv_signed.f a0 a1 = some (r1, r2)) :
    Calls Try.prog 42 #[.bool a0, .int .u64 a1] w fun e w' => e = .returned (.tuple #[.int .i64 r1, .int .i64 r2]) ∧ Drawn0 w w' := by
 have H : (if a0 = true then (if a1 > 9223372036854775808 then (some (0, 4)) else (some (wrap64 ((wrap64 (-(wrap64 (IntKind.u64.wrap (a1 - 1))))) - 1), 0))) else (if a1 ≥ 9223372036854775808 then (some (0, 4)) else (some (wrap64 (a1), 0)))) = some (r1, r2) := h
 clear h
 by_cases c3 : a0 = true
 ·subst c3
  have H1 : (if a1 > 9223372036854775808 then (some (0, 4)) else (some (wrap64 ((wrap64 (-(wrap64 (IntKind.u64.wrap (a1 - 1))))) - 1), 0))) = some (r1, r2) := by rw [if_pos rfl] at H; exact H
  clear H
  have H := H1
  clear H1
  by_cases c4 : a1 > 9223372036854775808
  ·rw [if_pos c4] at H
   have c4b0 : decide (9223372036854775808 < a1) = true := decide_eq_true c4
   clear c4
   simp only [Option.some.injEq, Prod.mk.injEq] at H
   obtain ⟨rfl, rfl⟩ := H
   go_enter Try.func42, Try.ntmps42
   go_wp2
   go_ret2
   exact ⟨by first | rfl | (simp; done) | (simp [*]; done), by repeat (first | exact Drawn0.refl _ | apply Drawn0.step)⟩
  ·rw [if_neg c4] at H
   have c4b0 : decide (9223372036854775808 < a1) = false := decide_eq_false c4
   clear c4
   simp only [Option.some.injEq, Prod.mk.injEq] at H
   obtain ⟨rfl, rfl⟩ := H
   go_enter Try.func42, Try.ntmps42
   go_wp2
   go_ret2
   exact ⟨by first | rfl | (simp; done) | (simp [*]; done), by repeat (first | exact Drawn0.refl _ | apply Drawn0.step)⟩
 ·replace c3 := Bool.eq_false_iff.mpr c3
  subst c3
  have H1 : (if a1 ≥ 9223372036854775808 then (some (0, 4)) else (some (wrap64 (a1), 0))) = some (r1, r2) := by rw [if_neg (show ¬ (false = true) by decide)] at H; exact H
  clear H
  have H := H1
  clear H1
  by_cases c5 : a1 ≥ 9223372036854775808
  ·rw [if_pos c5] at H
   have c5b0 : decide (9223372036854775808 ≤ a1) = true := decide_eq_true c5
   clear c5
   simp only [Option.some.injEq, Prod.mk.injEq] at H
   obtain ⟨rfl, rfl⟩ := H
   go_enter Try.func42, Try.ntmps42
   go_wp2
   go_ret2
   exact ⟨by first | rfl | (simp; done) | (simp [*]; done), by repeat (first | exact Drawn0.refl _ | apply Drawn0.step)⟩
  ·rw [if_neg c5] at H
   have c5b0 : decide (9223372036854775808 ≤ a1) = false := decide_eq_false c5
   clear c5
   simp only [Option.some.injEq, Prod.mk.injEq] at H
   obtain ⟨rfl, rfl⟩ := H
   go_enter Try.func42, Try.ntmps42
   go_wp2
   go_ret2
   exact ⟨by first | rfl | (simp; done) | (simp [*]; done), by repeat (first | exact Drawn0.refl _ | apply Drawn0.step)⟩
end Go.Proofs.Ytgjpegmhlnabpaa.M
end
