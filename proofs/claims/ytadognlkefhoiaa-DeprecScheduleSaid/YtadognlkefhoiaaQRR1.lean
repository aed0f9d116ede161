/- What the claims of this seat share, part 1 of 3: what the program's functions compute. -/
import Derived.Test.YtadognlkefhoiaaQBB2
import Derived.Test.YtadognlkefhoiaaQBB4
import Derived.Test.YtadognlkefhoiaaQBB3
namespace Go.Proofs.Ytadognlkefhoiaa.M
theorem prr1_0 {p : Prop} (h : p := by have := HK1.out; omega) : p := h
theorem prr1_1 {p : Prop} (h : p := by repeat (first | (with_reducible first | exact HB.out | apply below_alloc | apply pw_below_drewN | apply below_drew1 | refine below_set ?_ GE101.out | refine below_set ?_ GE102.out) | exact HB.out)) : p := h
theorem prr1_2 {p : Prop} (h : p := by (with_reducible repeat (first | refine blk_drewN ?_ _ | refine blk_drew ?_ | refine blk_alloc ?_ _)); exact BK102.out) : p := h
theorem prr1_3 {p : Prop} (h : p := by have := HJ1.out; have := HJ13.out; first | omega | exact Nat.le_refl _) : p := h
theorem prr1_4 {p : Prop} (h : p := by have := HJ4.out; have := HJ13.out; have := HJ18.out; first | omega | exact Nat.le_refl _) : p := h
end Go.Proofs.Ytadognlkefhoiaa.M
section
namespace Go.Proofs.Ytadognlkefhoiaa.M
open Go.RowKit Go.Proofs.YtadognlkefhoiaaW.PrintWords Go.Proofs.YtadognlkefhoiaaW.PrintLast Go.Proofs.YtadognlkefhoiaaW.PrintMore
attribute [local go_sem] max2_int min2_int max_two min_two max_three min_three max_four min_four
set_option linter.unusedVariables false
set_option linter.unusedSimpArgs false
def accountingref03_divisor.l0 : Nat → Int → Int → Option (Int)
  | 0, _, _ => none
  | k + 1, x0, x1 => if x1 = 0 then (some x0) else (accountingref03_divisor.l0 k x1 (Int.tmod x0 x1))
def accountingref03_divisor.f (k : Nat) (a0 : Int) (a1 : Int) : Option (Int) := accountingref03_divisor.l0 k a0 a1
set_option maxHeartbeats 8000000 in
set_option maxRecDepth 100000 in
theorem accountingref03_divisor.calls (k : Nat) (a0 : Int) (a1 : Int) (r : Int) (w : World) (h : accountingref03_divisor.f k a0 a1 = some r) :
    Calls Try.prog 31 #[.int .u64 a0, .int .u64 a1] w fun e w' => e = .returned (.int .u64 r) ∧ Drawn0 w w' := by
 have H : (accountingref03_divisor.l0 k a0 a1) = some r := h; clear h; have H' := Aside0.mk H; clear H; go_enter Try.func31, Try.ntmps31
 go_wp2
 repeat (go_quiet (fail); try go_wp2)
 go_loopg [0, 1] k (fun kq v0 v1 w' => ∃ (x0_1 : Int) (x1_1 : Int), v0 = .int .u64 x0_1 ∧ v1 = .int .u64 x1_1 ∧ Aside0 (accountingref03_divisor.l0 kq x0_1 x1_1 = some r) ∧ Aside0 (kq ≤ k) ∧ Drawn0 w w')
 case atStart => exact ⟨(a0), (a1), pbb2_0, pbb2_0, H', ⟨Nat.le_refl _⟩, pbb2_1⟩
 case round =>
  clear H'; (try clear p2); obtain ⟨x0_1, x1_1, rfl, rfl, HA, HK1, ⟨m1, rfl⟩⟩ := hrel
  cases gk with
  | zero => exact absurd HA.out (by simp [accountingref03_divisor.l0])
  | succ k1 =>
   have H := HA.out; clear HA; simp only [accountingref03_divisor.l0] at H
   by_cases c3 : x1_1 = 0
   ·rw [if_pos c3] at H; have c3b0 : (x1_1 == 0) = true := beq_iff_eq.mpr c3; have c3b1 : (x1_1 != 0) = false := bne_eq_false_iff_eq.mpr c3; clear c3; obtain rfl := Option.some.inj H
    go_wp2
    repeat (go_quiet (fail); try go_wp2)
    go_ret
    exact ⟨pbb2_0, pbb2_1⟩
   ·rw [if_neg c3] at H; have c3b0 : (x1_1 == 0) = false := beq_eq_false_iff_ne.mpr c3; have c3b1 : (x1_1 != 0) = true := bne_iff_ne.mpr c3; have H' := Aside0.mk H; clear H
    go_wp2
    repeat (go_quiet (fail); try go_wp2)
    go_roundg k1
    case measure => have := HK1.out; omega
    case rel => exact ⟨(x1_1), (Int.tmod x0_1 x1_1), pbb2_0, pbb2_0, H', ⟨prr1_0⟩, pbb2_1⟩
def accountingref03_size.f (a0 : Int) : Option (Int) := if a0 < 0 then (some (IntKind.u64.wrap (-(IntKind.u64.wrap (a0))))) else (some (IntKind.u64.wrap (a0)))
set_option maxHeartbeats 8000000 in
set_option maxRecDepth 100000 in
theorem accountingref03_size.calls (a0 : Int) (r : Int) (w : World) (h : accountingref03_size.f a0 = some r) :
    Calls Try.prog 32 #[.int .i64 a0] w fun e w' => e = .returned (.int .u64 r) ∧ Drawn0 w w' := by
 have H : (if a0 < 0 then (some (IntKind.u64.wrap (-(IntKind.u64.wrap (a0))))) else (some (IntKind.u64.wrap (a0)))) = some r := h; clear h
 by_cases c2 : a0 < 0
 ·rw [if_pos c2] at H; have c2b0 : decide (a0 < 0) = true := decide_eq_true c2; clear c2; obtain rfl := Option.some.inj H; go_enter Try.func32, Try.ntmps32
  go_wp2
  go_ret
  exact ⟨pbb2_0, pbb2_1⟩
 ·rw [if_neg c2] at H; have c2b0 : decide (a0 < 0) = false := decide_eq_false c2; clear c2; obtain rfl := Option.some.inj H; go_enter Try.func32, Try.ntmps32
  go_wp2
  go_ret
  exact ⟨pbb2_0, pbb2_1⟩
def accountingref03_Right.f (k : Nat) (a0_0 : Int) (a0_1 : Int) : Option (Bool) := if a0_1 ≥ 1 then (if a0_1 ≤ 1000000 then (if a0_0 ≥ (-1000000) then (if a0_0 ≤ 1000000 then ((accountingref03_size.f a0_0).bind fun t102 => ((accountingref03_size.f a0_1).bind fun t103 => ((accountingref03_divisor.f k t102 t103).bind fun t104 => (some (t104 == 1))))) else (some false)) else (some false)) else (some false)) else (some false)
set_option maxHeartbeats 8000000 in
set_option maxRecDepth 100000 in
theorem accountingref03_Right.calls (k : Nat) (a0_0 : Int) (a0_1 : Int) (r : Bool) (w : World) (h : accountingref03_Right.f k a0_0 a0_1 = some r) :
    Calls Try.prog 19 #[.agg #[.int .i64 a0_0, .int .i64 a0_1]] w fun e w' => e = .returned (.bool r) ∧ Below w.heap.size w w' := by
 have hu23 := Try.underlying23; have hu3 := Try.underlying3; have HB := Aside0.mk (Below.refl w.heap.size w); have H : (if a0_1 ≥ 1 then (if a0_1 ≤ 1000000 then (if a0_0 ≥ (-1000000) then (if a0_0 ≤ 1000000 then ((accountingref03_size.f a0_0).bind fun t102 => ((accountingref03_size.f a0_1).bind fun t103 => ((accountingref03_divisor.f k t102 t103).bind fun t104 => (some (t104 == 1))))) else (some false)) else (some false)) else (some false)) else (some false)) = some r := h; clear h
 by_cases c2 : a0_1 ≥ 1
 ·rw [if_pos c2] at H; have c2b0 : decide (1 ≤ a0_1) = true := decide_eq_true c2; clear c2
  by_cases c3 : a0_1 ≤ 1000000
  ·rw [if_pos c3] at H; have c3b0 : decide (a0_1 ≤ 1000000) = true := decide_eq_true c3; clear c3
   by_cases c4 : a0_0 ≥ (-1000000)
   ·rw [if_pos c4] at H; have c4b0 : decide ((-1000000) ≤ a0_0) = true := decide_eq_true c4; clear c4
    by_cases c5 : a0_0 ≤ 1000000
    ·rw [if_pos c5] at H; have c5b0 : decide (a0_0 ≤ 1000000) = true := decide_eq_true c5; clear c5; replace H := Option.bind_eq_some_iff.mp H; obtain ⟨t102, A60, H⟩ := H; replace H : ((accountingref03_size.f a0_1).bind fun t103 => ((accountingref03_divisor.f k t102 t103).bind fun t104 => (some (t104 == 1)))) = some r := H; have A6 := Aside0.mk A60; clear A60; replace H := Option.bind_eq_some_iff.mp H; obtain ⟨t103, A70, H⟩ := H; replace H : ((accountingref03_divisor.f k t102 t103).bind fun t104 => (some (t104 == 1))) = some r := H; have A7 := Aside0.mk A70; clear A70; replace H := Option.bind_eq_some_iff.mp H; obtain ⟨t104, A80, H⟩ := H; replace H : (some (t104 == 1)) = some r := H; have A8 := Aside0.mk A80; clear A80; obtain rfl := Option.some.inj H; go_enter Try.func19, Try.ntmps19
     go_wp2_with (first | ((with_reducible refine gate_dst (N := 1) rfl ?_); refine box_event ?hg (N := 1) ?hd (cs := #[.int .i64 a0_0, .int .i64 a0_1]) (t := 23) ?hr ?_; (case hd => rfl); (case hg => rfl); (case hr => first | (go_simp; done) | (go_simp; rfl)); intro gb101 hg w9 hbox hb; have n0_ := Aside0.mk (below_step pbb2_2 hb); have n1_ := Aside0.mk (hbox); have n2_ := Aside0.mk ((pbb2_3 : w.heap.size ≤ gb101)); have n3_ := Aside0.mk ((pbb2_3 : w.heap.size ≤ gb101)); clear HB; have HB := n0_; have BK101 := n1_; have GW101 := n2_; have GE101 := n3_; clear n0_ n1_ n2_ n3_; clear hb hbox hg; have hcz10_0 : w9.cell? ⟨gb101, 0, none⟩ = some (.int .i64 a0_0) := (blk_cell BK101.out 0).trans rfl; have hcz10_1 : w9.cell? ⟨gb101, 1, none⟩ = some (.int .i64 a0_1) := (blk_cell BK101.out 1).trans rfl; have hfz10_0 := blk_frozen BK101.out 0; have hfz10_1 := blk_frozen BK101.out 1) | (go_at_call 32; (with_reducible refine (accountingref03_size.calls a0_0 t102 _ A6.out).mono ?_); rintro e w' ⟨rfl, ⟨nd, rfl⟩⟩; (try first | exact ⟨rfl, _, World.drewN_drewN _ _ _⟩ | exact ⟨rfl, _, Eq.trans (World.drewN_drewN _ _ _) (congrArg (World.drewN _) (Nat.add_assoc _ _ _))⟩)) | (go_at_call 32; (with_reducible refine (accountingref03_size.calls a0_1 t103 _ A7.out).mono ?_); rintro e w' ⟨rfl, ⟨nd, rfl⟩⟩; (try first | exact ⟨rfl, _, World.drewN_drewN _ _ _⟩ | exact ⟨rfl, _, Eq.trans (World.drewN_drewN _ _ _) (congrArg (World.drewN _) (Nat.add_assoc _ _ _))⟩)) | (go_at_call 31; (with_reducible refine (accountingref03_divisor.calls k t102 t103 t104 _ A8.out).mono ?_); rintro e w' ⟨rfl, ⟨nd, rfl⟩⟩; (try first | exact ⟨rfl, _, World.drewN_drewN _ _ _⟩ | exact ⟨rfl, _, Eq.trans (World.drewN_drewN _ _ _) (congrArg (World.drewN _) (Nat.add_assoc _ _ _))⟩)))
     repeat (go_quiet (first | ((with_reducible refine gate_dst (N := 1) rfl ?_); refine box_event ?hg (N := 1) ?hd (cs := #[.int .i64 a0_0, .int .i64 a0_1]) (t := 23) ?hr ?_; (case hd => rfl); (case hg => rfl); (case hr => first | (go_simp; done) | (go_simp; rfl)); intro gb101 hg w9 hbox hb; have n0_ := Aside0.mk (below_step pbb2_2 hb); have n1_ := Aside0.mk (hbox); have n2_ := Aside0.mk ((pbb2_3 : w.heap.size ≤ gb101)); have n3_ := Aside0.mk ((pbb2_3 : w.heap.size ≤ gb101)); clear HB; have HB := n0_; have BK101 := n1_; have GW101 := n2_; have GE101 := n3_; clear n0_ n1_ n2_ n3_; clear hb hbox hg; have hcz10_0 : w9.cell? ⟨gb101, 0, none⟩ = some (.int .i64 a0_0) := (blk_cell BK101.out 0).trans rfl; have hcz10_1 : w9.cell? ⟨gb101, 1, none⟩ = some (.int .i64 a0_1) := (blk_cell BK101.out 1).trans rfl; have hfz10_0 := blk_frozen BK101.out 0; have hfz10_1 := blk_frozen BK101.out 1) | (go_at_call 32; (with_reducible refine (accountingref03_size.calls a0_0 t102 _ A6.out).mono ?_); rintro e w' ⟨rfl, ⟨nd, rfl⟩⟩; (try first | exact ⟨rfl, _, World.drewN_drewN _ _ _⟩ | exact ⟨rfl, _, Eq.trans (World.drewN_drewN _ _ _) (congrArg (World.drewN _) (Nat.add_assoc _ _ _))⟩)) | (go_at_call 32; (with_reducible refine (accountingref03_size.calls a0_1 t103 _ A7.out).mono ?_); rintro e w' ⟨rfl, ⟨nd, rfl⟩⟩; (try first | exact ⟨rfl, _, World.drewN_drewN _ _ _⟩ | exact ⟨rfl, _, Eq.trans (World.drewN_drewN _ _ _) (congrArg (World.drewN _) (Nat.add_assoc _ _ _))⟩)) | (go_at_call 31; (with_reducible refine (accountingref03_divisor.calls k t102 t103 t104 _ A8.out).mono ?_); rintro e w' ⟨rfl, ⟨nd, rfl⟩⟩; (try first | exact ⟨rfl, _, World.drewN_drewN _ _ _⟩ | exact ⟨rfl, _, Eq.trans (World.drewN_drewN _ _ _) (congrArg (World.drewN _) (Nat.add_assoc _ _ _))⟩))); try go_wp2_with (first | ((with_reducible refine gate_dst (N := 1) rfl ?_); refine box_event ?hg (N := 1) ?hd (cs := #[.int .i64 a0_0, .int .i64 a0_1]) (t := 23) ?hr ?_; (case hd => rfl); (case hg => rfl); (case hr => first | (go_simp; done) | (go_simp; rfl)); intro gb101 hg w9 hbox hb; have n0_ := Aside0.mk (below_step pbb2_2 hb); have n1_ := Aside0.mk (hbox); have n2_ := Aside0.mk ((pbb2_3 : w.heap.size ≤ gb101)); have n3_ := Aside0.mk ((pbb2_3 : w.heap.size ≤ gb101)); clear HB; have HB := n0_; have BK101 := n1_; have GW101 := n2_; have GE101 := n3_; clear n0_ n1_ n2_ n3_; clear hb hbox hg; have hcz10_0 : w9.cell? ⟨gb101, 0, none⟩ = some (.int .i64 a0_0) := (blk_cell BK101.out 0).trans rfl; have hcz10_1 : w9.cell? ⟨gb101, 1, none⟩ = some (.int .i64 a0_1) := (blk_cell BK101.out 1).trans rfl; have hfz10_0 := blk_frozen BK101.out 0; have hfz10_1 := blk_frozen BK101.out 1) | (go_at_call 32; (with_reducible refine (accountingref03_size.calls a0_0 t102 _ A6.out).mono ?_); rintro e w' ⟨rfl, ⟨nd, rfl⟩⟩; (try first | exact ⟨rfl, _, World.drewN_drewN _ _ _⟩ | exact ⟨rfl, _, Eq.trans (World.drewN_drewN _ _ _) (congrArg (World.drewN _) (Nat.add_assoc _ _ _))⟩)) | (go_at_call 32; (with_reducible refine (accountingref03_size.calls a0_1 t103 _ A7.out).mono ?_); rintro e w' ⟨rfl, ⟨nd, rfl⟩⟩; (try first | exact ⟨rfl, _, World.drewN_drewN _ _ _⟩ | exact ⟨rfl, _, Eq.trans (World.drewN_drewN _ _ _) (congrArg (World.drewN _) (Nat.add_assoc _ _ _))⟩)) | (go_at_call 31; (with_reducible refine (accountingref03_divisor.calls k t102 t103 t104 _ A8.out).mono ?_); rintro e w' ⟨rfl, ⟨nd, rfl⟩⟩; (try first | exact ⟨rfl, _, World.drewN_drewN _ _ _⟩ | exact ⟨rfl, _, Eq.trans (World.drewN_drewN _ _ _) (congrArg (World.drewN _) (Nat.add_assoc _ _ _))⟩))))
     go_ret
     exact ⟨pbb2_6, pbb2_5⟩
    ·rw [if_neg c5] at H; have c5b0 : decide (a0_0 ≤ 1000000) = false := decide_eq_false c5; clear c5; obtain rfl := Option.some.inj H; go_enter Try.func19, Try.ntmps19
     go_wp2_with (first | ((with_reducible refine gate_dst (N := 1) rfl ?_); refine box_event ?hg (N := 1) ?hd (cs := #[.int .i64 a0_0, .int .i64 a0_1]) (t := 23) ?hr ?_; (case hd => rfl); (case hg => rfl); (case hr => first | (go_simp; done) | (go_simp; rfl)); intro gb101 hg w11 hbox hb; have n0_ := Aside0.mk (below_step pbb2_2 hb); have n1_ := Aside0.mk (hbox); have n2_ := Aside0.mk ((pbb2_3 : w.heap.size ≤ gb101)); have n3_ := Aside0.mk ((pbb2_3 : w.heap.size ≤ gb101)); clear HB; have HB := n0_; have BK101 := n1_; have GW101 := n2_; have GE101 := n3_; clear n0_ n1_ n2_ n3_; clear hb hbox hg; have hcz12_0 : w11.cell? ⟨gb101, 0, none⟩ = some (.int .i64 a0_0) := (blk_cell BK101.out 0).trans rfl; have hcz12_1 : w11.cell? ⟨gb101, 1, none⟩ = some (.int .i64 a0_1) := (blk_cell BK101.out 1).trans rfl; have hfz12_0 := blk_frozen BK101.out 0; have hfz12_1 := blk_frozen BK101.out 1))
     repeat (go_quiet (first | ((with_reducible refine gate_dst (N := 1) rfl ?_); refine box_event ?hg (N := 1) ?hd (cs := #[.int .i64 a0_0, .int .i64 a0_1]) (t := 23) ?hr ?_; (case hd => rfl); (case hg => rfl); (case hr => first | (go_simp; done) | (go_simp; rfl)); intro gb101 hg w11 hbox hb; have n0_ := Aside0.mk (below_step pbb2_2 hb); have n1_ := Aside0.mk (hbox); have n2_ := Aside0.mk ((pbb2_3 : w.heap.size ≤ gb101)); have n3_ := Aside0.mk ((pbb2_3 : w.heap.size ≤ gb101)); clear HB; have HB := n0_; have BK101 := n1_; have GW101 := n2_; have GE101 := n3_; clear n0_ n1_ n2_ n3_; clear hb hbox hg; have hcz12_0 : w11.cell? ⟨gb101, 0, none⟩ = some (.int .i64 a0_0) := (blk_cell BK101.out 0).trans rfl; have hcz12_1 : w11.cell? ⟨gb101, 1, none⟩ = some (.int .i64 a0_1) := (blk_cell BK101.out 1).trans rfl; have hfz12_0 := blk_frozen BK101.out 0; have hfz12_1 := blk_frozen BK101.out 1)); try go_wp2_with (first | ((with_reducible refine gate_dst (N := 1) rfl ?_); refine box_event ?hg (N := 1) ?hd (cs := #[.int .i64 a0_0, .int .i64 a0_1]) (t := 23) ?hr ?_; (case hd => rfl); (case hg => rfl); (case hr => first | (go_simp; done) | (go_simp; rfl)); intro gb101 hg w11 hbox hb; have n0_ := Aside0.mk (below_step pbb2_2 hb); have n1_ := Aside0.mk (hbox); have n2_ := Aside0.mk ((pbb2_3 : w.heap.size ≤ gb101)); have n3_ := Aside0.mk ((pbb2_3 : w.heap.size ≤ gb101)); clear HB; have HB := n0_; have BK101 := n1_; have GW101 := n2_; have GE101 := n3_; clear n0_ n1_ n2_ n3_; clear hb hbox hg; have hcz12_0 : w11.cell? ⟨gb101, 0, none⟩ = some (.int .i64 a0_0) := (blk_cell BK101.out 0).trans rfl; have hcz12_1 : w11.cell? ⟨gb101, 1, none⟩ = some (.int .i64 a0_1) := (blk_cell BK101.out 1).trans rfl; have hfz12_0 := blk_frozen BK101.out 0; have hfz12_1 := blk_frozen BK101.out 1)))
     go_ret
     exact ⟨pbb2_6, pbb2_5⟩
   ·rw [if_neg c4] at H; have c4b0 : decide ((-1000000) ≤ a0_0) = false := decide_eq_false c4; clear c4; obtain rfl := Option.some.inj H; go_enter Try.func19, Try.ntmps19
    go_wp2_with (first | ((with_reducible refine gate_dst (N := 1) rfl ?_); refine box_event ?hg (N := 1) ?hd (cs := #[.int .i64 a0_0, .int .i64 a0_1]) (t := 23) ?hr ?_; (case hd => rfl); (case hg => rfl); (case hr => first | (go_simp; done) | (go_simp; rfl)); intro gb101 hg w13 hbox hb; have n0_ := Aside0.mk (below_step pbb2_2 hb); have n1_ := Aside0.mk (hbox); have n2_ := Aside0.mk ((pbb2_3 : w.heap.size ≤ gb101)); have n3_ := Aside0.mk ((pbb2_3 : w.heap.size ≤ gb101)); clear HB; have HB := n0_; have BK101 := n1_; have GW101 := n2_; have GE101 := n3_; clear n0_ n1_ n2_ n3_; clear hb hbox hg; have hcz14_0 : w13.cell? ⟨gb101, 0, none⟩ = some (.int .i64 a0_0) := (blk_cell BK101.out 0).trans rfl; have hcz14_1 : w13.cell? ⟨gb101, 1, none⟩ = some (.int .i64 a0_1) := (blk_cell BK101.out 1).trans rfl; have hfz14_0 := blk_frozen BK101.out 0; have hfz14_1 := blk_frozen BK101.out 1))
    repeat (go_quiet (first | ((with_reducible refine gate_dst (N := 1) rfl ?_); refine box_event ?hg (N := 1) ?hd (cs := #[.int .i64 a0_0, .int .i64 a0_1]) (t := 23) ?hr ?_; (case hd => rfl); (case hg => rfl); (case hr => first | (go_simp; done) | (go_simp; rfl)); intro gb101 hg w13 hbox hb; have n0_ := Aside0.mk (below_step pbb2_2 hb); have n1_ := Aside0.mk (hbox); have n2_ := Aside0.mk ((pbb2_3 : w.heap.size ≤ gb101)); have n3_ := Aside0.mk ((pbb2_3 : w.heap.size ≤ gb101)); clear HB; have HB := n0_; have BK101 := n1_; have GW101 := n2_; have GE101 := n3_; clear n0_ n1_ n2_ n3_; clear hb hbox hg; have hcz14_0 : w13.cell? ⟨gb101, 0, none⟩ = some (.int .i64 a0_0) := (blk_cell BK101.out 0).trans rfl; have hcz14_1 : w13.cell? ⟨gb101, 1, none⟩ = some (.int .i64 a0_1) := (blk_cell BK101.out 1).trans rfl; have hfz14_0 := blk_frozen BK101.out 0; have hfz14_1 := blk_frozen BK101.out 1)); try go_wp2_with (first | ((with_reducible refine gate_dst (N := 1) rfl ?_); refine box_event ?hg (N := 1) ?hd (cs := #[.int .i64 a0_0, .int .i64 a0_1]) (t := 23) ?hr ?_; (case hd => rfl); (case hg => rfl); (case hr => first | (go_simp; done) | (go_simp; rfl)); intro gb101 hg w13 hbox hb; have n0_ := Aside0.mk (below_step pbb2_2 hb); have n1_ := Aside0.mk (hbox); have n2_ := Aside0.mk ((pbb2_3 : w.heap.size ≤ gb101)); have n3_ := Aside0.mk ((pbb2_3 : w.heap.size ≤ gb101)); clear HB; have HB := n0_; have BK101 := n1_; have GW101 := n2_; have GE101 := n3_; clear n0_ n1_ n2_ n3_; clear hb hbox hg; have hcz14_0 : w13.cell? ⟨gb101, 0, none⟩ = some (.int .i64 a0_0) := (blk_cell BK101.out 0).trans rfl; have hcz14_1 : w13.cell? ⟨gb101, 1, none⟩ = some (.int .i64 a0_1) := (blk_cell BK101.out 1).trans rfl; have hfz14_0 := blk_frozen BK101.out 0; have hfz14_1 := blk_frozen BK101.out 1)))
    go_ret
    exact ⟨pbb2_6, pbb2_5⟩
  ·rw [if_neg c3] at H; have c3b0 : decide (a0_1 ≤ 1000000) = false := decide_eq_false c3; clear c3; obtain rfl := Option.some.inj H; go_enter Try.func19, Try.ntmps19
   go_wp2_with (first | ((with_reducible refine gate_dst (N := 1) rfl ?_); refine box_event ?hg (N := 1) ?hd (cs := #[.int .i64 a0_0, .int .i64 a0_1]) (t := 23) ?hr ?_; (case hd => rfl); (case hg => rfl); (case hr => first | (go_simp; done) | (go_simp; rfl)); intro gb101 hg w15 hbox hb; have n0_ := Aside0.mk (below_step pbb2_2 hb); have n1_ := Aside0.mk (hbox); have n2_ := Aside0.mk ((pbb2_3 : w.heap.size ≤ gb101)); have n3_ := Aside0.mk ((pbb2_3 : w.heap.size ≤ gb101)); clear HB; have HB := n0_; have BK101 := n1_; have GW101 := n2_; have GE101 := n3_; clear n0_ n1_ n2_ n3_; clear hb hbox hg; have hcz16_0 : w15.cell? ⟨gb101, 0, none⟩ = some (.int .i64 a0_0) := (blk_cell BK101.out 0).trans rfl; have hcz16_1 : w15.cell? ⟨gb101, 1, none⟩ = some (.int .i64 a0_1) := (blk_cell BK101.out 1).trans rfl; have hfz16_0 := blk_frozen BK101.out 0; have hfz16_1 := blk_frozen BK101.out 1))
   repeat (go_quiet (first | ((with_reducible refine gate_dst (N := 1) rfl ?_); refine box_event ?hg (N := 1) ?hd (cs := #[.int .i64 a0_0, .int .i64 a0_1]) (t := 23) ?hr ?_; (case hd => rfl); (case hg => rfl); (case hr => first | (go_simp; done) | (go_simp; rfl)); intro gb101 hg w15 hbox hb; have n0_ := Aside0.mk (below_step pbb2_2 hb); have n1_ := Aside0.mk (hbox); have n2_ := Aside0.mk ((pbb2_3 : w.heap.size ≤ gb101)); have n3_ := Aside0.mk ((pbb2_3 : w.heap.size ≤ gb101)); clear HB; have HB := n0_; have BK101 := n1_; have GW101 := n2_; have GE101 := n3_; clear n0_ n1_ n2_ n3_; clear hb hbox hg; have hcz16_0 : w15.cell? ⟨gb101, 0, none⟩ = some (.int .i64 a0_0) := (blk_cell BK101.out 0).trans rfl; have hcz16_1 : w15.cell? ⟨gb101, 1, none⟩ = some (.int .i64 a0_1) := (blk_cell BK101.out 1).trans rfl; have hfz16_0 := blk_frozen BK101.out 0; have hfz16_1 := blk_frozen BK101.out 1)); try go_wp2_with (first | ((with_reducible refine gate_dst (N := 1) rfl ?_); refine box_event ?hg (N := 1) ?hd (cs := #[.int .i64 a0_0, .int .i64 a0_1]) (t := 23) ?hr ?_; (case hd => rfl); (case hg => rfl); (case hr => first | (go_simp; done) | (go_simp; rfl)); intro gb101 hg w15 hbox hb; have n0_ := Aside0.mk (below_step pbb2_2 hb); have n1_ := Aside0.mk (hbox); have n2_ := Aside0.mk ((pbb2_3 : w.heap.size ≤ gb101)); have n3_ := Aside0.mk ((pbb2_3 : w.heap.size ≤ gb101)); clear HB; have HB := n0_; have BK101 := n1_; have GW101 := n2_; have GE101 := n3_; clear n0_ n1_ n2_ n3_; clear hb hbox hg; have hcz16_0 : w15.cell? ⟨gb101, 0, none⟩ = some (.int .i64 a0_0) := (blk_cell BK101.out 0).trans rfl; have hcz16_1 : w15.cell? ⟨gb101, 1, none⟩ = some (.int .i64 a0_1) := (blk_cell BK101.out 1).trans rfl; have hfz16_0 := blk_frozen BK101.out 0; have hfz16_1 := blk_frozen BK101.out 1)))
   go_ret
   exact ⟨pbb2_6, pbb2_5⟩
 ·rw [if_neg c2] at H; have c2b0 : decide (1 ≤ a0_1) = false := decide_eq_false c2; clear c2; obtain rfl := Option.some.inj H; go_enter Try.func19, Try.ntmps19
  go_wp2_with (first | ((with_reducible refine gate_dst (N := 1) rfl ?_); refine box_event ?hg (N := 1) ?hd (cs := #[.int .i64 a0_0, .int .i64 a0_1]) (t := 23) ?hr ?_; (case hd => rfl); (case hg => rfl); (case hr => first | (go_simp; done) | (go_simp; rfl)); intro gb101 hg w17 hbox hb; have n0_ := Aside0.mk (below_step pbb2_2 hb); have n1_ := Aside0.mk (hbox); have n2_ := Aside0.mk ((pbb2_3 : w.heap.size ≤ gb101)); have n3_ := Aside0.mk ((pbb2_3 : w.heap.size ≤ gb101)); clear HB; have HB := n0_; have BK101 := n1_; have GW101 := n2_; have GE101 := n3_; clear n0_ n1_ n2_ n3_; clear hb hbox hg; have hcz18_0 : w17.cell? ⟨gb101, 0, none⟩ = some (.int .i64 a0_0) := (blk_cell BK101.out 0).trans rfl; have hcz18_1 : w17.cell? ⟨gb101, 1, none⟩ = some (.int .i64 a0_1) := (blk_cell BK101.out 1).trans rfl; have hfz18_0 := blk_frozen BK101.out 0; have hfz18_1 := blk_frozen BK101.out 1))
  repeat (go_quiet (first | ((with_reducible refine gate_dst (N := 1) rfl ?_); refine box_event ?hg (N := 1) ?hd (cs := #[.int .i64 a0_0, .int .i64 a0_1]) (t := 23) ?hr ?_; (case hd => rfl); (case hg => rfl); (case hr => first | (go_simp; done) | (go_simp; rfl)); intro gb101 hg w17 hbox hb; have n0_ := Aside0.mk (below_step pbb2_2 hb); have n1_ := Aside0.mk (hbox); have n2_ := Aside0.mk ((pbb2_3 : w.heap.size ≤ gb101)); have n3_ := Aside0.mk ((pbb2_3 : w.heap.size ≤ gb101)); clear HB; have HB := n0_; have BK101 := n1_; have GW101 := n2_; have GE101 := n3_; clear n0_ n1_ n2_ n3_; clear hb hbox hg; have hcz18_0 : w17.cell? ⟨gb101, 0, none⟩ = some (.int .i64 a0_0) := (blk_cell BK101.out 0).trans rfl; have hcz18_1 : w17.cell? ⟨gb101, 1, none⟩ = some (.int .i64 a0_1) := (blk_cell BK101.out 1).trans rfl; have hfz18_0 := blk_frozen BK101.out 0; have hfz18_1 := blk_frozen BK101.out 1)); try go_wp2_with (first | ((with_reducible refine gate_dst (N := 1) rfl ?_); refine box_event ?hg (N := 1) ?hd (cs := #[.int .i64 a0_0, .int .i64 a0_1]) (t := 23) ?hr ?_; (case hd => rfl); (case hg => rfl); (case hr => first | (go_simp; done) | (go_simp; rfl)); intro gb101 hg w17 hbox hb; have n0_ := Aside0.mk (below_step pbb2_2 hb); have n1_ := Aside0.mk (hbox); have n2_ := Aside0.mk ((pbb2_3 : w.heap.size ≤ gb101)); have n3_ := Aside0.mk ((pbb2_3 : w.heap.size ≤ gb101)); clear HB; have HB := n0_; have BK101 := n1_; have GW101 := n2_; have GE101 := n3_; clear n0_ n1_ n2_ n3_; clear hb hbox hg; have hcz18_0 : w17.cell? ⟨gb101, 0, none⟩ = some (.int .i64 a0_0) := (blk_cell BK101.out 0).trans rfl; have hcz18_1 : w17.cell? ⟨gb101, 1, none⟩ = some (.int .i64 a0_1) := (blk_cell BK101.out 1).trans rfl; have hfz18_0 := blk_frozen BK101.out 0; have hfz18_1 := blk_frozen BK101.out 1)))
  go_ret
  exact ⟨pbb2_6, pbb2_5⟩
end Go.Proofs.Ytadognlkefhoiaa.M
end
section
namespace Go.Proofs.Ytadognlkefhoiaa.M
open Go.RowKit Go.Proofs.YtadognlkefhoiaaW.PrintWords Dv
set_option linter.unusedVariables false
set_option linter.unusedSimpArgs false
theorem accountingref03_divisor.go : ∀ (n : Nat) (a b : Int), b.toNat ≤ n → 0 ≤ a → 0 ≤ b → Ev (fun k => accountingref03_divisor.l0 k a b) ((Nat.gcd a.toNat b.toNat : Nat) : Int)
  | 0, a, b, hn, ha, hb => by
    obtain rfl : b = 0 := by omega
    refine Ev.succ ?_; simp only [accountingref03_divisor.l0, if_true]; have e : ((Nat.gcd a.toNat (0 : Int).toNat : Nat) : Int) = a := by simp; omega
    rw [e]; exact Ev.const _
  | n + 1, a, b, hn, ha, hb => by
    refine Ev.succ ?_
    by_cases h : b = 0
    · subst h; simp only [accountingref03_divisor.l0, if_true]; have e : ((Nat.gcd a.toNat (0 : Int).toNat : Nat) : Int) = a := by simp; omega
      rw [e]; exact Ev.const _
    · simp only [accountingref03_divisor.l0, if_neg h]; have e : Int.tmod a b = a % b := Int.tmod_eq_emod_of_nonneg ha; have h1 : 0 ≤ a % b := Int.emod_nonneg a h; have h2 : a % b < b := Int.emod_lt_of_pos a (by omega); rw [e]; have ih := accountingref03_divisor.go n b (a % b) (by omega) hb h1
      have g : Nat.gcd b.toNat (a % b).toNat = Nat.gcd a.toNat b.toNat := by
        rw [Int.toNat_emod ha hb, Nat.gcd_comm a.toNat, Nat.gcd_rec b.toNat a.toNat, Nat.gcd_comm]
      rw [g] at ih; exact ih
theorem accountingref03_size.eq {a : Int} (h : inI a) : accountingref03_size.f a = some (ab a) := by
  unfold inI at h
  unfold accountingref03_size.f ab
  simp only [wrap_u64]
  split
  · congr 1; omega
  · congr 1; omega
theorem accountingref03_Right.eq {n d : Int} (hn : inI n) (hd : inI d) : Ev (fun k => accountingref03_Right.f k n d) (rightv n d) := by
  have hb := ab_bound hn
  unfold accountingref03_Right.f
  by_cases c1 : d ≥ 1
  · by_cases c2 : d ≤ 1000000
    · by_cases c3 : n ≥ -1000000
      · by_cases c4 : n ≤ 1000000
        · simp only [if_pos c1, if_pos c2, if_pos c3, if_pos c4, accountingref03_size.eq hn, accountingref03_size.eq hd, Option.bind_some]; rw [rightv_yes ⟨c1, c2, c3, c4⟩]; have e : ab d = d := by unfold ab; rw [if_neg (by omega)]
          rw [e]; exact Ev.bind (g := fun k => accountingref03_divisor.f k (ab n) d) (h := fun k t => some (t == 1)) (accountingref03_divisor.go _ _ _ (Nat.le_refl _) hb.1 (by omega)) (Ev.const _)
        · simp only [if_pos c1, if_pos c2, if_pos c3, if_neg c4]; rw [rightv_no (by omega)]; exact Ev.const _
      · simp only [if_pos c1, if_pos c2, if_neg c3]; rw [rightv_no (by omega)]; exact Ev.const _
    · simp only [if_pos c1, if_neg c2]; rw [rightv_no (by omega)]; exact Ev.const _
  · simp only [if_neg c1]; rw [rightv_no (by omega)]; exact Ev.const _
end Go.Proofs.Ytadognlkefhoiaa.M
end
section
namespace Go.Proofs.Ytadognlkefhoiaa.M
open Go.RowKit Go.Proofs.YtadognlkefhoiaaW.PrintWords Go.Proofs.YtadognlkefhoiaaW.PrintLast Go.Proofs.YtadognlkefhoiaaW.PrintMore
attribute [local go_sem] max2_int min2_int max_two min_two max_three min_three max_four min_four
set_option linter.unusedVariables false
set_option linter.unusedSimpArgs false
def accountingref30_units.l0 : Nat → Bool → Int → Int → Int → Int → Int → Int → Int → List Int → Option (Bool)
  | 0, _, _, _, _, _, _, _, _, _ => none
  | k + 1, x3, x4, x102000, x102001, x102002, x102003, x102004, x102005, x102006 => if x4 < (x102006.length : Int) then (if 0 ≤ x4 then (if (rd x102006 x4) < 0 then (some false) else (if (rd x102006 x4) > 1000000000 then (some false) else (if x3 = true then (accountingref30_units.l0 k true (wrap64 (x4 + 1)) x102000 x102001 x102002 x102003 x102004 x102005 x102006) else (accountingref30_units.l0 k (decide ((rd x102006 x4) > 0)) (wrap64 (x4 + 1)) x102000 x102001 x102002 x102003 x102004 x102005 x102006)))) else (none)) else (if x3 = true then (some ((x102006.length : Int) == x102003)) else (some false))
def accountingref30_units.f (k : Nat) (a0_0 : Int) (a0_1 : Int) (a0_2 : Int) (a0_3 : Int) (a0_4 : Int) (a0_5 : Int) (l0_6 : List Int) : Option (Bool) := accountingref30_units.l0 k false 0 a0_0 a0_1 a0_2 a0_3 a0_4 a0_5 l0_6
set_option maxHeartbeats 8000000 in
set_option maxRecDepth 100000 in
theorem accountingref30_units.calls (k : Nat) (a0_0 : Int) (a0_1 : Int) (a0_2 : Int) (a0_3 : Int) (a0_4 : Int) (a0_5 : Int) (A0_6 : Option Addr) (c0_6 : Nat) (l0_6 : List Int) (r : Bool) (w : World) (hr0_6 : Kd.C (Kd.int .i64) w A0_6 l0_6.length l0_6) (hc0_6 : l0_6.length ≤ c0_6) (h : accountingref30_units.f k a0_0 a0_1 a0_2 a0_3 a0_4 a0_5 l0_6 = some r) :
    Calls Try.prog 20 #[.agg #[.int .i64 a0_0, .int .i64 a0_1, .int .i64 a0_2, .int .i64 a0_3, .int .i64 a0_4, .int .i64 a0_5, .slice A0_6 l0_6.length c0_6]] w fun e w' => e = .returned (.bool r) ∧ Below w.heap.size w w' := by
 have hu26 := Try.underlying26; have hu24 := Try.underlying24; have hu3 := Try.underlying3; have HR0_6 := Aside0.mk hr0_6; have HC0_6 := Aside0.mk hc0_6; clear hr0_6 hc0_6; have HB := Aside0.mk (Below.refl w.heap.size w); have H : (accountingref30_units.l0 k false 0 a0_0 a0_1 a0_2 a0_3 a0_4 a0_5 l0_6) = some r := h; clear h; have H' := Aside0.mk H; clear H; go_enter Try.func20, Try.ntmps20
 go_wp2_with (first | ((with_reducible refine gate_dst (N := 1) rfl ?_); (try (refine gate_guard (by rfl) ?_; dsimp only)); refine box_event ?hg (N := 1) ?hd (cs := #[.int .i64 a0_0, .int .i64 a0_1, .int .i64 a0_2, .int .i64 a0_3, .int .i64 a0_4, .int .i64 a0_5, .slice A0_6 l0_6.length c0_6]) (t := 26) ?hr ?_; (case hd => rfl); (case hg => rfl); (case hr => first | (go_simp; done) | (go_simp; rfl)); intro gb101 hg w2 hbox hb; have n0_ := Aside0.mk (below_step pbb2_2 hb); have n1_ := Aside0.mk (hbox); have n2_ := Aside0.mk ((pbb2_3 : w.heap.size ≤ gb101)); have n3_ := Aside0.mk ((pbb2_3 : w.heap.size ≤ gb101)); clear HB; have HB := n0_; have BK101 := n1_; have GW101 := n2_; have GE101 := n3_; clear n0_ n1_ n2_ n3_; clear hb hbox hg))
 go_loopg [3, 4] k (fun kq v3 v4 w' => ∃ (x3_1 : Bool) (x4_1 : Int), v3 = .bool x3_1 ∧ v4 = .int .i64 x4_1 ∧ Aside0 (accountingref30_units.l0 kq x3_1 x4_1 a0_0 a0_1 a0_2 a0_3 a0_4 a0_5 l0_6 = some r) ∧ Aside0 (kq ≤ k) ∧ Aside0 (w'.heap[gb101]? = some (.cells #[.int .i64 a0_0, .int .i64 a0_1, .int .i64 a0_2, .int .i64 a0_3, .int .i64 a0_4, .int .i64 a0_5, (.slice A0_6 l0_6.length c0_6)] 26 (0, 0))) ∧ Aside0 (Below w.heap.size w w'))
 case atStart => exact ⟨(false), (0), pbb2_0, pbb2_0, H', ⟨Nat.le_refl _⟩, ⟨pbb2_4⟩, ⟨pbb2_5⟩⟩
 case round =>
  clear H'; (try clear c2); (try clear p2); obtain ⟨x3_1, x4_1, rfl, rfl, HA, HK1, BK101, HB⟩ := hrel
  cases gk with
  | zero => exact absurd HA.out (by simp [accountingref30_units.l0])
  | succ k1 =>
   have H := HA.out; clear HA; simp only [accountingref30_units.l0] at H
   by_cases c3 : x4_1 < (l0_6.length : Int)
   ·rw [if_pos c3] at H; have c3b0 : decide (x4_1 < (l0_6.length : Int)) = true := decide_eq_true c3; clear c3
    by_cases c4 : 0 ≤ x4_1
    ·rw [if_pos c4] at H; have c4b0 : decide (0 ≤ x4_1) = true := decide_eq_true c4; clear c4
     by_cases c5 : (rd l0_6 x4_1) < 0
     ·rw [if_pos c5] at H; have c5b0 : decide ((rd l0_6 x4_1) < 0) = true := decide_eq_true c5; clear c5; obtain rfl := Option.some.inj H; have hcz6_0 : wr.cell? ⟨gb101, 0, none⟩ = some (.int .i64 a0_0) := (blk_cell BK101.out 0).trans rfl; have hcz6_1 : wr.cell? ⟨gb101, 1, none⟩ = some (.int .i64 a0_1) := (blk_cell BK101.out 1).trans rfl; have hcz6_2 : wr.cell? ⟨gb101, 2, none⟩ = some (.int .i64 a0_2) := (blk_cell BK101.out 2).trans rfl; have hcz6_3 : wr.cell? ⟨gb101, 3, none⟩ = some (.int .i64 a0_3) := (blk_cell BK101.out 3).trans rfl; have hcz6_4 : wr.cell? ⟨gb101, 4, none⟩ = some (.int .i64 a0_4) := (blk_cell BK101.out 4).trans rfl; have hcz6_5 : wr.cell? ⟨gb101, 5, none⟩ = some (.int .i64 a0_5) := (blk_cell BK101.out 5).trans rfl; have hcz6_6 : wr.cell? ⟨gb101, 6, none⟩ = some (.slice A0_6 l0_6.length c0_6) := (blk_cell BK101.out 6).trans rfl; have hfz6_0 := blk_frozen BK101.out 0; have hfz6_1 := blk_frozen BK101.out 1; have hfz6_2 := blk_frozen BK101.out 2; have hfz6_3 := blk_frozen BK101.out 3; have hfz6_4 := blk_frozen BK101.out 4; have hfz6_5 := blk_frozen BK101.out 5; have hfz6_6 := blk_frozen BK101.out 6; have p102 : 0 ≤ (x4_1 : Int) := of_decide_eq_true pbb4_0; have q102 : x4_1 < (l0_6.length : Int) := of_decide_eq_true pbb4_0; obtain ⟨ad102, e102, hx102_0⟩ := Kd.at_int HR0_6.out x4_1 p102 q102
      cases e102
      replace hx102_0 := (HB.out.cell (World.block_lt_of_cell? w _ hx102_0)).trans hx102_0; replace p102 := eq_true p102; replace q102 := eq_true q102
      go_wp2
      go_ret
      exact ⟨pbb2_6, pbb2_5⟩
     ·rw [if_neg c5] at H; have c5b0 : decide ((rd l0_6 x4_1) < 0) = false := decide_eq_false c5; clear c5
      by_cases c7 : (rd l0_6 x4_1) > 1000000000
      ·rw [if_pos c7] at H; have c7b0 : decide (1000000000 < (rd l0_6 x4_1)) = true := decide_eq_true c7; clear c7; obtain rfl := Option.some.inj H; have hcz8_0 : wr.cell? ⟨gb101, 0, none⟩ = some (.int .i64 a0_0) := (blk_cell BK101.out 0).trans rfl; have hcz8_1 : wr.cell? ⟨gb101, 1, none⟩ = some (.int .i64 a0_1) := (blk_cell BK101.out 1).trans rfl; have hcz8_2 : wr.cell? ⟨gb101, 2, none⟩ = some (.int .i64 a0_2) := (blk_cell BK101.out 2).trans rfl; have hcz8_3 : wr.cell? ⟨gb101, 3, none⟩ = some (.int .i64 a0_3) := (blk_cell BK101.out 3).trans rfl; have hcz8_4 : wr.cell? ⟨gb101, 4, none⟩ = some (.int .i64 a0_4) := (blk_cell BK101.out 4).trans rfl; have hcz8_5 : wr.cell? ⟨gb101, 5, none⟩ = some (.int .i64 a0_5) := (blk_cell BK101.out 5).trans rfl; have hcz8_6 : wr.cell? ⟨gb101, 6, none⟩ = some (.slice A0_6 l0_6.length c0_6) := (blk_cell BK101.out 6).trans rfl; have hfz8_0 := blk_frozen BK101.out 0; have hfz8_1 := blk_frozen BK101.out 1; have hfz8_2 := blk_frozen BK101.out 2; have hfz8_3 := blk_frozen BK101.out 3; have hfz8_4 := blk_frozen BK101.out 4; have hfz8_5 := blk_frozen BK101.out 5; have hfz8_6 := blk_frozen BK101.out 6; have p102 : 0 ≤ (x4_1 : Int) := of_decide_eq_true pbb4_0; have q102 : x4_1 < (l0_6.length : Int) := of_decide_eq_true pbb4_0; obtain ⟨ad102, e102, hx102_0⟩ := Kd.at_int HR0_6.out x4_1 p102 q102
       cases e102
       replace hx102_0 := (HB.out.cell (World.block_lt_of_cell? w _ hx102_0)).trans hx102_0; replace p102 := eq_true p102; replace q102 := eq_true q102; have p103 : 0 ≤ (x4_1 : Int) := of_decide_eq_true pbb4_0; have q103 : x4_1 < (l0_6.length : Int) := of_decide_eq_true pbb4_0; obtain ⟨ad103, e103, hx103_0⟩ := Kd.at_int HR0_6.out x4_1 p103 q103; obtain rfl : ad102 = ad103 := (by injection e103); replace hx103_0 := (HB.out.cell (World.block_lt_of_cell? w _ hx103_0)).trans hx103_0; replace p103 := eq_true p103; replace q103 := eq_true q103
       go_wp2
       go_ret
       exact ⟨pbb2_6, pbb2_5⟩
      ·rw [if_neg c7] at H; have c7b0 : decide (1000000000 < (rd l0_6 x4_1)) = false := decide_eq_false c7; clear c7
       by_cases c9 : x3_1 = true
       ·subst c9; have H1 : (accountingref30_units.l0 k1 true (wrap64 (x4_1 + 1)) a0_0 a0_1 a0_2 a0_3 a0_4 a0_5 l0_6) = some r := by rw [if_pos rfl] at H; exact H
        clear H; have H := H1; clear H1; have H' := Aside0.mk H; clear H; have hcz10_0 : wr.cell? ⟨gb101, 0, none⟩ = some (.int .i64 a0_0) := (blk_cell BK101.out 0).trans rfl; have hcz10_1 : wr.cell? ⟨gb101, 1, none⟩ = some (.int .i64 a0_1) := (blk_cell BK101.out 1).trans rfl; have hcz10_2 : wr.cell? ⟨gb101, 2, none⟩ = some (.int .i64 a0_2) := (blk_cell BK101.out 2).trans rfl; have hcz10_3 : wr.cell? ⟨gb101, 3, none⟩ = some (.int .i64 a0_3) := (blk_cell BK101.out 3).trans rfl; have hcz10_4 : wr.cell? ⟨gb101, 4, none⟩ = some (.int .i64 a0_4) := (blk_cell BK101.out 4).trans rfl; have hcz10_5 : wr.cell? ⟨gb101, 5, none⟩ = some (.int .i64 a0_5) := (blk_cell BK101.out 5).trans rfl; have hcz10_6 : wr.cell? ⟨gb101, 6, none⟩ = some (.slice A0_6 l0_6.length c0_6) := (blk_cell BK101.out 6).trans rfl; have hfz10_0 := blk_frozen BK101.out 0; have hfz10_1 := blk_frozen BK101.out 1; have hfz10_2 := blk_frozen BK101.out 2; have hfz10_3 := blk_frozen BK101.out 3; have hfz10_4 := blk_frozen BK101.out 4; have hfz10_5 := blk_frozen BK101.out 5; have hfz10_6 := blk_frozen BK101.out 6; have p102 : 0 ≤ (x4_1 : Int) := of_decide_eq_true pbb4_0; have q102 : x4_1 < (l0_6.length : Int) := of_decide_eq_true pbb4_0; obtain ⟨ad102, e102, hx102_0⟩ := Kd.at_int HR0_6.out x4_1 p102 q102
        cases e102
        replace hx102_0 := (HB.out.cell (World.block_lt_of_cell? w _ hx102_0)).trans hx102_0; replace p102 := eq_true p102; replace q102 := eq_true q102; have p103 : 0 ≤ (x4_1 : Int) := of_decide_eq_true pbb4_0; have q103 : x4_1 < (l0_6.length : Int) := of_decide_eq_true pbb4_0; obtain ⟨ad103, e103, hx103_0⟩ := Kd.at_int HR0_6.out x4_1 p103 q103; obtain rfl : ad102 = ad103 := (by injection e103); replace hx103_0 := (HB.out.cell (World.block_lt_of_cell? w _ hx103_0)).trans hx103_0; replace p103 := eq_true p103; replace q103 := eq_true q103
        go_wp2
        go_roundg k1
        case measure => have := HK1.out; omega
        case rel => exact ⟨(true), (wrap64 (x4_1 + 1)), pbb2_0, pbb2_0, H', ⟨prr1_0⟩, ⟨pbb2_4⟩, ⟨pbb2_5⟩⟩
       ·replace c9 := Bool.eq_false_iff.mpr c9; subst c9; have H1 : (accountingref30_units.l0 k1 (decide ((rd l0_6 x4_1) > 0)) (wrap64 (x4_1 + 1)) a0_0 a0_1 a0_2 a0_3 a0_4 a0_5 l0_6) = some r := by rw [if_neg (show ¬ (false = true) by decide)] at H; exact H
        clear H; have H := H1; clear H1; have H' := Aside0.mk H; clear H; have hcz11_0 : wr.cell? ⟨gb101, 0, none⟩ = some (.int .i64 a0_0) := (blk_cell BK101.out 0).trans rfl; have hcz11_1 : wr.cell? ⟨gb101, 1, none⟩ = some (.int .i64 a0_1) := (blk_cell BK101.out 1).trans rfl; have hcz11_2 : wr.cell? ⟨gb101, 2, none⟩ = some (.int .i64 a0_2) := (blk_cell BK101.out 2).trans rfl; have hcz11_3 : wr.cell? ⟨gb101, 3, none⟩ = some (.int .i64 a0_3) := (blk_cell BK101.out 3).trans rfl; have hcz11_4 : wr.cell? ⟨gb101, 4, none⟩ = some (.int .i64 a0_4) := (blk_cell BK101.out 4).trans rfl; have hcz11_5 : wr.cell? ⟨gb101, 5, none⟩ = some (.int .i64 a0_5) := (blk_cell BK101.out 5).trans rfl; have hcz11_6 : wr.cell? ⟨gb101, 6, none⟩ = some (.slice A0_6 l0_6.length c0_6) := (blk_cell BK101.out 6).trans rfl; have hfz11_0 := blk_frozen BK101.out 0; have hfz11_1 := blk_frozen BK101.out 1; have hfz11_2 := blk_frozen BK101.out 2; have hfz11_3 := blk_frozen BK101.out 3; have hfz11_4 := blk_frozen BK101.out 4; have hfz11_5 := blk_frozen BK101.out 5; have hfz11_6 := blk_frozen BK101.out 6; have p102 : 0 ≤ (x4_1 : Int) := of_decide_eq_true pbb4_0; have q102 : x4_1 < (l0_6.length : Int) := of_decide_eq_true pbb4_0; obtain ⟨ad102, e102, hx102_0⟩ := Kd.at_int HR0_6.out x4_1 p102 q102
        cases e102
        replace hx102_0 := (HB.out.cell (World.block_lt_of_cell? w _ hx102_0)).trans hx102_0; replace p102 := eq_true p102; replace q102 := eq_true q102; have p103 : 0 ≤ (x4_1 : Int) := of_decide_eq_true pbb4_0; have q103 : x4_1 < (l0_6.length : Int) := of_decide_eq_true pbb4_0; obtain ⟨ad103, e103, hx103_0⟩ := Kd.at_int HR0_6.out x4_1 p103 q103; obtain rfl : ad102 = ad103 := (by injection e103); replace hx103_0 := (HB.out.cell (World.block_lt_of_cell? w _ hx103_0)).trans hx103_0; replace p103 := eq_true p103; replace q103 := eq_true q103; have p104 : 0 ≤ (x4_1 : Int) := of_decide_eq_true pbb4_0; have q104 : x4_1 < (l0_6.length : Int) := of_decide_eq_true pbb4_0; obtain ⟨ad104, e104, hx104_0⟩ := Kd.at_int HR0_6.out x4_1 p104 q104; obtain rfl : ad102 = ad104 := (by injection e104); replace hx104_0 := (HB.out.cell (World.block_lt_of_cell? w _ hx104_0)).trans hx104_0; replace p104 := eq_true p104; replace q104 := eq_true q104
        go_wp2
        go_roundg k1
        case measure => have := HK1.out; omega
        case rel => exact ⟨(decide ((rd l0_6 x4_1) > 0)), (wrap64 (x4_1 + 1)), pbb2_0, pbb2_0, H', ⟨prr1_0⟩, ⟨pbb2_4⟩, ⟨pbb2_5⟩⟩
    ·rw [if_neg c4] at H; exact absurd H (by simp)
   ·rw [if_neg c3] at H; have c3b0 : decide (x4_1 < (l0_6.length : Int)) = false := decide_eq_false c3; clear c3
    by_cases c12 : x3_1 = true
    ·subst c12; have H1 : (some ((l0_6.length : Int) == a0_3)) = some r := by rw [if_pos rfl] at H; exact H
     clear H; have H := H1; clear H1; obtain rfl := Option.some.inj H; have hcz13_0 : wr.cell? ⟨gb101, 0, none⟩ = some (.int .i64 a0_0) := (blk_cell BK101.out 0).trans rfl; have hcz13_1 : wr.cell? ⟨gb101, 1, none⟩ = some (.int .i64 a0_1) := (blk_cell BK101.out 1).trans rfl; have hcz13_2 : wr.cell? ⟨gb101, 2, none⟩ = some (.int .i64 a0_2) := (blk_cell BK101.out 2).trans rfl; have hcz13_3 : wr.cell? ⟨gb101, 3, none⟩ = some (.int .i64 a0_3) := (blk_cell BK101.out 3).trans rfl; have hcz13_4 : wr.cell? ⟨gb101, 4, none⟩ = some (.int .i64 a0_4) := (blk_cell BK101.out 4).trans rfl; have hcz13_5 : wr.cell? ⟨gb101, 5, none⟩ = some (.int .i64 a0_5) := (blk_cell BK101.out 5).trans rfl; have hcz13_6 : wr.cell? ⟨gb101, 6, none⟩ = some (.slice A0_6 l0_6.length c0_6) := (blk_cell BK101.out 6).trans rfl; have hfz13_0 := blk_frozen BK101.out 0; have hfz13_1 := blk_frozen BK101.out 1; have hfz13_2 := blk_frozen BK101.out 2; have hfz13_3 := blk_frozen BK101.out 3; have hfz13_4 := blk_frozen BK101.out 4; have hfz13_5 := blk_frozen BK101.out 5; have hfz13_6 := blk_frozen BK101.out 6
     go_wp2
     go_ret
     exact ⟨pbb2_6, pbb2_5⟩
    ·replace c12 := Bool.eq_false_iff.mpr c12; subst c12; have H1 : (some false) = some r := by rw [if_neg (show ¬ (false = true) by decide)] at H; exact H
     clear H; have H := H1; clear H1; obtain rfl := Option.some.inj H; have hcz14_0 : wr.cell? ⟨gb101, 0, none⟩ = some (.int .i64 a0_0) := (blk_cell BK101.out 0).trans rfl; have hcz14_1 : wr.cell? ⟨gb101, 1, none⟩ = some (.int .i64 a0_1) := (blk_cell BK101.out 1).trans rfl; have hcz14_2 : wr.cell? ⟨gb101, 2, none⟩ = some (.int .i64 a0_2) := (blk_cell BK101.out 2).trans rfl; have hcz14_3 : wr.cell? ⟨gb101, 3, none⟩ = some (.int .i64 a0_3) := (blk_cell BK101.out 3).trans rfl; have hcz14_4 : wr.cell? ⟨gb101, 4, none⟩ = some (.int .i64 a0_4) := (blk_cell BK101.out 4).trans rfl; have hcz14_5 : wr.cell? ⟨gb101, 5, none⟩ = some (.int .i64 a0_5) := (blk_cell BK101.out 5).trans rfl; have hcz14_6 : wr.cell? ⟨gb101, 6, none⟩ = some (.slice A0_6 l0_6.length c0_6) := (blk_cell BK101.out 6).trans rfl; have hfz14_0 := blk_frozen BK101.out 0; have hfz14_1 := blk_frozen BK101.out 1; have hfz14_2 := blk_frozen BK101.out 2; have hfz14_3 := blk_frozen BK101.out 3; have hfz14_4 := blk_frozen BK101.out 4; have hfz14_5 := blk_frozen BK101.out 5; have hfz14_6 := blk_frozen BK101.out 6
     go_wp2
     go_ret
     exact ⟨pbb2_6, pbb2_5⟩
mutual
def accountingref30_Check.j0 : Nat → Bool → Int → Int → Int → Int → Int → Int → List Int → Int → Int → Option (Int)
  | 0, _, _, _, _, _, _, _, _, _, _ => none
  | k + 1, x6, x102000, x102001, x102002, x102003, x102004, x102005, x102006, x103000, x103001 => if x6 = true then (some 10) else (if x102001 < 1 then (accountingref30_Check.j1 k true x102000 x102001 x102002 x102003 x102004 x102005 x102006 x103000 x103001) else (if x102001 > 1000000000000 then (accountingref30_Check.j1 k true x102000 x102001 x102002 x102003 x102004 x102005 x102006 x103000 x103001) else (if x102002 < 0 then (accountingref30_Check.j1 k true x102000 x102001 x102002 x102003 x102004 x102005 x102006 x103000 x103001) else (if x102002 > x102001 then (accountingref30_Check.j1 k true x102000 x102001 x102002 x102003 x102004 x102005 x102006 x103000 x103001) else (if x102003 < 1 then (accountingref30_Check.j1 k true x102000 x102001 x102002 x102003 x102004 x102005 x102006 x103000 x103001) else (accountingref30_Check.j1 k (decide (x102003 > 200)) x102000 x102001 x102002 x102003 x102004 x102005 x102006 x103000 x103001))))))
def accountingref30_Check.j1 : Nat → Bool → Int → Int → Int → Int → Int → Int → List Int → Int → Int → Option (Int)
  | 0, _, _, _, _, _, _, _, _, _, _ => none
  | k + 1, x15, x102000, x102001, x102002, x102003, x102004, x102005, x102006, x103000, x103001 => if x15 = true then (some 3) else (if x102000 = 2 then ((accountingref03_Right.f k x103000 x103001).bind fun t103 => (if t103 = true then (if x103000 ≤ 0 then (accountingref30_Check.j2 k true x102000 x102001 x102002 x102003 x102004 x102005 x102006) else (accountingref30_Check.j2 k (decide (x103000 ≥ x103001)) x102000 x102001 x102002 x102003 x102004 x102005 x102006)) else (accountingref30_Check.j2 k true x102000 x102001 x102002 x102003 x102004 x102005 x102006))) else (accountingref30_Check.j2 k false x102000 x102001 x102002 x102003 x102004 x102005 x102006))
def accountingref30_Check.j2 : Nat → Bool → Int → Int → Int → Int → Int → Int → List Int → Option (Int)
  | 0, _, _, _, _, _, _, _, _ => none
  | k + 1, x46, x102000, x102001, x102002, x102003, x102004, x102005, x102006 => if x46 = true then (some 2) else (if x102000 = 4 then ((accountingref30_units.f k x102000 x102001 x102002 x102003 x102004 x102005 x102006).bind fun t104 => (if t104 = true then (some 0) else (some 2))) else (some 0))
end
def accountingref30_Check.f (k : Nat) (a0_0 : Int) (a0_1 : Int) (a0_2 : Int) (a0_3 : Int) (a0_4 : Int) (a0_5 : Int) (l0_6 : List Int) : Option (Int) := if a0_0 < 1 then (accountingref30_Check.j0 k true a0_0 a0_1 a0_2 a0_3 a0_4 a0_5 l0_6 a0_4 a0_5) else (accountingref30_Check.j0 k (decide (a0_0 > 4)) a0_0 a0_1 a0_2 a0_3 a0_4 a0_5 l0_6 a0_4 a0_5)
set_option maxHeartbeats 8000000 in
set_option maxRecDepth 100000 in
theorem accountingref30_Check.calls (k : Nat) (a0_0 : Int) (a0_1 : Int) (a0_2 : Int) (a0_3 : Int) (a0_4 : Int) (a0_5 : Int) (A0_6 : Option Addr) (c0_6 : Nat) (l0_6 : List Int) (r : Int) (w : World) (hr0_6 : Kd.C (Kd.int .i64) w A0_6 l0_6.length l0_6) (hc0_6 : l0_6.length ≤ c0_6) (h : accountingref30_Check.f k a0_0 a0_1 a0_2 a0_3 a0_4 a0_5 l0_6 = some r) :
    Calls Try.prog 11 #[.agg #[.int .i64 a0_0, .int .i64 a0_1, .int .i64 a0_2, .int .i64 a0_3, .int .i64 a0_4, .int .i64 a0_5, .slice A0_6 l0_6.length c0_6]] w fun e w' => e = .returned (.int .i64 r) ∧ Below w.heap.size w w' := by
 have hu26 := Try.underlying26; have hu23 := Try.underlying23; have hu3 := Try.underlying3; have HR0_6 := Aside0.mk hr0_6; have HC0_6 := Aside0.mk hc0_6; clear hr0_6 hc0_6; have HB := Aside0.mk (Below.refl w.heap.size w); have H : (if a0_0 < 1 then (accountingref30_Check.j0 k true a0_0 a0_1 a0_2 a0_3 a0_4 a0_5 l0_6 a0_4 a0_5) else (accountingref30_Check.j0 k (decide (a0_0 > 4)) a0_0 a0_1 a0_2 a0_3 a0_4 a0_5 l0_6 a0_4 a0_5)) = some r := h; clear h; have HC2 := Aside0.mk H; clear H; go_enter Try.func11, Try.ntmps11
 go_upto_region 2 with (first | ((with_reducible refine gate_dst (N := 1) rfl ?_); refine box_event ?hg (N := 1) ?hd (cs := #[.int .i64 a0_0, .int .i64 a0_1, .int .i64 a0_2, .int .i64 a0_3, .int .i64 a0_4, .int .i64 a0_5, .slice A0_6 l0_6.length c0_6]) (t := 26) ?hr ?_; (case hd => rfl); (case hg => rfl); (case hr => first | (go_simp; done) | (go_simp; rfl)); intro gb101 hg w3 hbox hb; have n0_ := Aside0.mk (below_step pbb2_2 hb); have n1_ := Aside0.mk (hbox); have n2_ := Aside0.mk ((pbb2_3 : w.heap.size ≤ gb101)); have n3_ := Aside0.mk ((pbb2_3 : w.heap.size ≤ gb101)); clear HB; have HB := n0_; have BK101 := n1_; have GW101 := n2_; have GE101 := n3_; clear n0_ n1_ n2_ n3_; clear hb hbox hg; have hcz4_0 : w3.cell? ⟨gb101, 0, none⟩ = some (.int .i64 a0_0) := (blk_cell BK101.out 0).trans rfl; have hcz4_1 : w3.cell? ⟨gb101, 1, none⟩ = some (.int .i64 a0_1) := (blk_cell BK101.out 1).trans rfl; have hcz4_2 : w3.cell? ⟨gb101, 2, none⟩ = some (.int .i64 a0_2) := (blk_cell BK101.out 2).trans rfl; have hcz4_3 : w3.cell? ⟨gb101, 3, none⟩ = some (.int .i64 a0_3) := (blk_cell BK101.out 3).trans rfl; have hcz4_4 : w3.cell? ⟨gb101, 4, none⟩ = some (.int .i64 a0_4) := (blk_cell BK101.out 4).trans rfl; have hcz4_5 : w3.cell? ⟨gb101, 5, none⟩ = some (.int .i64 a0_5) := (blk_cell BK101.out 5).trans rfl; have hcz4_6 : w3.cell? ⟨gb101, 6, none⟩ = some (.slice A0_6 l0_6.length c0_6) := (blk_cell BK101.out 6).trans rfl; have hfz4_0 := blk_frozen BK101.out 0; have hfz4_1 := blk_frozen BK101.out 1; have hfz4_2 := blk_frozen BK101.out 2; have hfz4_3 := blk_frozen BK101.out 3; have hfz4_4 := blk_frozen BK101.out 4; have hfz4_5 := blk_frozen BK101.out 5; have hfz4_6 := blk_frozen BK101.out 6) | ((with_reducible refine gate_dst (N := 3) rfl ?_); refine box_event ?hg (N := 3) ?hd (cs := #[.int .i64 0, .int .i64 0]) (t := 23) ?hr ?_; (case hd => rfl); (case hg => rfl); (case hr => first | (go_simp; done) | (go_simp; rfl)); intro gb102 hg w5 hbox hb; have n0_ := Aside0.mk (blk_below (g := gb101) (o := .cells #[.int .i64 a0_0, .int .i64 a0_1, .int .i64 a0_2, .int .i64 a0_3, .int .i64 a0_4, .int .i64 a0_5, .slice A0_6 l0_6.length c0_6] 26 (0, 0)) pbb2_4 hb); have n1_ := Aside0.mk (below_step pbb2_5 hb); have n2_ := Aside0.mk (hbox); have n3_ := Aside0.mk ((by rw [hg]; exact (below_size pbb2_5) : w.heap.size ≤ gb102)); have n4_ := Aside0.mk ((by rw [hg]; exact (below_size pbb2_5) : w.heap.size ≤ gb102)); have n5_ := Aside0.mk ((by rw [hg]; exact Nat.ne_of_lt (blk_lt (g := gb101) (o := .cells #[.int .i64 a0_0, .int .i64 a0_1, .int .i64 a0_2, .int .i64 a0_3, .int .i64 a0_4, .int .i64 a0_5, .slice A0_6 l0_6.length c0_6] 26 (0, 0)) pbb2_4) : gb101 ≠ gb102)); have n6_ := Aside0.mk ((by rw [hg]; exact Nat.ne_of_gt (blk_lt (g := gb101) (o := .cells #[.int .i64 a0_0, .int .i64 a0_1, .int .i64 a0_2, .int .i64 a0_3, .int .i64 a0_4, .int .i64 a0_5, .slice A0_6 l0_6.length c0_6] 26 (0, 0)) pbb2_4) : gb102 ≠ gb101)); clear BK101; clear HB; have BK101 := n0_; have HB := n1_; have BK102 := n2_; have GW102 := n3_; have GE102 := n4_; have NB101_102 := n5_; have NB102_101 := n6_; clear n0_ n1_ n2_ n3_ n4_ n5_ n6_; clear hb hbox hg; have hnb6 := NB102_101.out; have hnc6 := NB101_102.out; have hcz7_0 : w5.cell? ⟨gb102, 0, none⟩ = some (.int .i64 0) := (blk_cell BK102.out 0).trans rfl; have hcz7_1 : w5.cell? ⟨gb102, 1, none⟩ = some (.int .i64 0) := (blk_cell BK102.out 1).trans rfl; have hfz7_0 := blk_frozen BK102.out 0; have hfz7_1 := blk_frozen BK102.out 1))
 (try simp only [Act.put, List.setIfInBounds_toArray, List.set_cons_zero, List.set_cons_succ])
 go_cut [6] (fun v6 wc => ∃ (kq : Nat) (x6_1 : Bool), v6 = .bool x6_1 ∧ Aside0 (accountingref30_Check.j0 kq x6_1 a0_0 a0_1 a0_2 a0_3 a0_4 a0_5 l0_6 a0_4 a0_5 = some r) ∧ Aside0 (kq ≤ k) ∧ Aside0 (wc.heap[gb101]? = some (.cells #[.int .i64 a0_0, .int .i64 a0_1, .int .i64 a0_2, .int .i64 a0_3, .int .i64 a0_4, .int .i64 a0_5, (.slice A0_6 l0_6.length c0_6)] 26 (0, 0))) ∧ Aside0 (wc.heap[gb102]? = some (.cells #[.int .i64 a0_4, .int .i64 a0_5] 23 (0, 0))) ∧ Aside0 (Below w.heap.size w wc))
 case first =>
  have H := HC2.out; clear HC2
  by_cases c8 : a0_0 < 1
  ·rw [if_pos c8] at H; have c8b0 : decide (a0_0 < 1) = true := decide_eq_true c8; clear c8; (first | rw [c8b0] | (simp only [i64_w, i32_w]; rw [c8b0]) | skip); have H' := Aside0.mk H; clear H; have hnb9 := NB101_102.out; have hnc9 := NB102_101.out; have hcz10_0 : w5.cell? ⟨gb101, 0, none⟩ = some (.int .i64 a0_0) := (blk_cell BK101.out 0).trans rfl; have hcz10_1 : w5.cell? ⟨gb101, 1, none⟩ = some (.int .i64 a0_1) := (blk_cell BK101.out 1).trans rfl; have hcz10_2 : w5.cell? ⟨gb101, 2, none⟩ = some (.int .i64 a0_2) := (blk_cell BK101.out 2).trans rfl; have hcz10_3 : w5.cell? ⟨gb101, 3, none⟩ = some (.int .i64 a0_3) := (blk_cell BK101.out 3).trans rfl; have hcz10_4 : w5.cell? ⟨gb101, 4, none⟩ = some (.int .i64 a0_4) := (blk_cell BK101.out 4).trans rfl; have hcz10_5 : w5.cell? ⟨gb101, 5, none⟩ = some (.int .i64 a0_5) := (blk_cell BK101.out 5).trans rfl; have hcz10_6 : w5.cell? ⟨gb101, 6, none⟩ = some (.slice A0_6 l0_6.length c0_6) := (blk_cell BK101.out 6).trans rfl; have hfz10_0 := blk_frozen BK101.out 0; have hfz10_1 := blk_frozen BK101.out 1; have hfz10_2 := blk_frozen BK101.out 2; have hfz10_3 := blk_frozen BK101.out 3; have hfz10_4 := blk_frozen BK101.out 4; have hfz10_5 := blk_frozen BK101.out 5; have hfz10_6 := blk_frozen BK101.out 6
   go_wp2
   go_meet
   case rel => exact ⟨_, (true), pbb2_0, H', ⟨by first | omega | exact Nat.le_refl _⟩, ⟨by (with_reducible repeat (first | refine blk_drewN ?_ _ | refine blk_drew ?_ | refine blk_alloc ?_ _)); refine blk_far ?_ NB101_102.out _; (with_reducible repeat (first | refine blk_drewN ?_ _ | refine blk_drew ?_ | refine blk_alloc ?_ _)); refine blk_far ?_ NB101_102.out _; (with_reducible repeat (first | refine blk_drewN ?_ _ | refine blk_drew ?_ | refine blk_alloc ?_ _)); exact BK101.out⟩, ⟨by (with_reducible repeat (first | refine blk_drewN ?_ _ | refine blk_drew ?_ | refine blk_alloc ?_ _)); refine blk_put (cs := #[.int .i64 a0_4, .int .i64 0]) ?_ 1 _ rfl; (with_reducible repeat (first | refine blk_drewN ?_ _ | refine blk_drew ?_ | refine blk_alloc ?_ _)); refine blk_put (cs := #[.int .i64 0, .int .i64 0]) ?_ 0 _ rfl; (with_reducible repeat (first | refine blk_drewN ?_ _ | refine blk_drew ?_ | refine blk_alloc ?_ _)); exact BK102.out⟩, ⟨prr1_1⟩⟩
  ·rw [if_neg c8] at H; have c8b0 : decide (a0_0 < 1) = false := decide_eq_false c8; clear c8; (first | rw [c8b0] | (simp only [i64_w, i32_w]; rw [c8b0]) | skip); have H' := Aside0.mk H; clear H; have hnb11 := NB101_102.out; have hnc11 := NB102_101.out; have hcz12_0 : w5.cell? ⟨gb101, 0, none⟩ = some (.int .i64 a0_0) := (blk_cell BK101.out 0).trans rfl; have hcz12_1 : w5.cell? ⟨gb101, 1, none⟩ = some (.int .i64 a0_1) := (blk_cell BK101.out 1).trans rfl; have hcz12_2 : w5.cell? ⟨gb101, 2, none⟩ = some (.int .i64 a0_2) := (blk_cell BK101.out 2).trans rfl; have hcz12_3 : w5.cell? ⟨gb101, 3, none⟩ = some (.int .i64 a0_3) := (blk_cell BK101.out 3).trans rfl; have hcz12_4 : w5.cell? ⟨gb101, 4, none⟩ = some (.int .i64 a0_4) := (blk_cell BK101.out 4).trans rfl; have hcz12_5 : w5.cell? ⟨gb101, 5, none⟩ = some (.int .i64 a0_5) := (blk_cell BK101.out 5).trans rfl; have hcz12_6 : w5.cell? ⟨gb101, 6, none⟩ = some (.slice A0_6 l0_6.length c0_6) := (blk_cell BK101.out 6).trans rfl; have hfz12_0 := blk_frozen BK101.out 0; have hfz12_1 := blk_frozen BK101.out 1; have hfz12_2 := blk_frozen BK101.out 2; have hfz12_3 := blk_frozen BK101.out 3; have hfz12_4 := blk_frozen BK101.out 4; have hfz12_5 := blk_frozen BK101.out 5; have hfz12_6 := blk_frozen BK101.out 6
   go_wp2
   go_meet
   case rel => exact ⟨_, (decide (a0_0 > 4)), pbb2_0, H', ⟨by first | omega | exact Nat.le_refl _⟩, ⟨by (with_reducible repeat (first | refine blk_drewN ?_ _ | refine blk_drew ?_ | refine blk_alloc ?_ _)); refine blk_far ?_ NB101_102.out _; (with_reducible repeat (first | refine blk_drewN ?_ _ | refine blk_drew ?_ | refine blk_alloc ?_ _)); refine blk_far ?_ NB101_102.out _; (with_reducible repeat (first | refine blk_drewN ?_ _ | refine blk_drew ?_ | refine blk_alloc ?_ _)); exact BK101.out⟩, ⟨by (with_reducible repeat (first | refine blk_drewN ?_ _ | refine blk_drew ?_ | refine blk_alloc ?_ _)); refine blk_put (cs := #[.int .i64 a0_4, .int .i64 0]) ?_ 1 _ rfl; (with_reducible repeat (first | refine blk_drewN ?_ _ | refine blk_drew ?_ | refine blk_alloc ?_ _)); refine blk_put (cs := #[.int .i64 0, .int .i64 0]) ?_ 0 _ rfl; (with_reducible repeat (first | refine blk_drewN ?_ _ | refine blk_drew ?_ | refine blk_alloc ?_ _)); exact BK102.out⟩, ⟨prr1_1⟩⟩
 case rest =>
  clear HC2; (try clear c1); (try clear p2); (try clear c6); (try clear c8); (try clear c8b0); (try clear c9); (try clear c11); (try clear hcz10_0); (try clear hcz10_1); (try clear hcz10_2); (try clear hcz10_3); (try clear hcz10_4); (try clear hcz10_5); (try clear hcz10_6); (try clear hcz12_0); (try clear hcz12_1); (try clear hcz12_2); (try clear hcz12_3); (try clear hcz12_4); (try clear hcz12_5); (try clear hcz12_6); (try clear hcz4_0); (try clear hcz4_1); (try clear hcz4_2); (try clear hcz4_3); (try clear hcz4_4); (try clear hcz4_5); (try clear hcz4_6); (try clear hcz7_0); (try clear hcz7_1); (try clear hfz10_0); (try clear hfz10_1); (try clear hfz10_2); (try clear hfz10_3); (try clear hfz10_4); (try clear hfz10_5); (try clear hfz10_6); (try clear hfz12_0); (try clear hfz12_1); (try clear hfz12_2); (try clear hfz12_3); (try clear hfz12_4); (try clear hfz12_5); (try clear hfz12_6); (try clear hfz4_0); (try clear hfz4_1); (try clear hfz4_2); (try clear hfz4_3); (try clear hfz4_4); (try clear hfz4_5); (try clear hfz4_6); (try clear hfz7_0); (try clear hfz7_1); obtain ⟨kq, x6_1, rfl, HA, HJ1, BK101, BK102, HB⟩ := hcut
  cases kq with
  | zero => exact absurd HA.out (by simp [accountingref30_Check.j0])
  | succ kj1 =>
   have H := HA.out; clear HA; simp only [accountingref30_Check.j0] at H
   by_cases c13 : x6_1 = true
   ·subst c13; have H1 : (some 10) = some r := by rw [if_pos rfl] at H; exact H
    clear H; have H := H1; clear H1; obtain rfl := Option.some.inj H
    go_wp2
    go_ret
    exact ⟨pbb2_6, prr1_1⟩
   ·replace c13 := Bool.eq_false_iff.mpr c13; subst c13; have H1 : (if a0_1 < 1 then (accountingref30_Check.j1 kj1 true a0_0 a0_1 a0_2 a0_3 a0_4 a0_5 l0_6 a0_4 a0_5) else (if a0_1 > 1000000000000 then (accountingref30_Check.j1 kj1 true a0_0 a0_1 a0_2 a0_3 a0_4 a0_5 l0_6 a0_4 a0_5) else (if a0_2 < 0 then (accountingref30_Check.j1 kj1 true a0_0 a0_1 a0_2 a0_3 a0_4 a0_5 l0_6 a0_4 a0_5) else (if a0_2 > a0_1 then (accountingref30_Check.j1 kj1 true a0_0 a0_1 a0_2 a0_3 a0_4 a0_5 l0_6 a0_4 a0_5) else (if a0_3 < 1 then (accountingref30_Check.j1 kj1 true a0_0 a0_1 a0_2 a0_3 a0_4 a0_5 l0_6 a0_4 a0_5) else (accountingref30_Check.j1 kj1 (decide (a0_3 > 200)) a0_0 a0_1 a0_2 a0_3 a0_4 a0_5 l0_6 a0_4 a0_5)))))) = some r := by rw [if_neg (show ¬ (false = true) by decide)] at H; exact H
    clear H; have H := H1; clear H1; have HC14 := Aside0.mk H; clear H
    go_upto_region 4 with (fail)
    go_cut [15] (fun v15 wc => ∃ (kq : Nat) (x15_13 : Bool), v15 = .bool x15_13 ∧ Aside0 (accountingref30_Check.j1 kq x15_13 a0_0 a0_1 a0_2 a0_3 a0_4 a0_5 l0_6 a0_4 a0_5 = some r) ∧ Aside0 (kq ≤ kj1) ∧ Aside0 (wc.heap[gb101]? = some (.cells #[.int .i64 a0_0, .int .i64 a0_1, .int .i64 a0_2, .int .i64 a0_3, .int .i64 a0_4, .int .i64 a0_5, (.slice A0_6 l0_6.length c0_6)] 26 (0, 0))) ∧ Aside0 (wc.heap[gb102]? = some (.cells #[.int .i64 a0_4, .int .i64 a0_5] 23 (0, 0))) ∧ Aside0 (Below w.heap.size w wc))
    case first =>
     have H := HC14.out; clear HC14
     by_cases c15 : a0_1 < 1
     ·rw [if_pos c15] at H; have c15b0 : decide (a0_1 < 1) = true := decide_eq_true c15; clear c15; (first | rw [c15b0] | (simp only [i64_w, i32_w]; rw [c15b0]) | skip); have H' := Aside0.mk H; clear H; have hnb16 := NB101_102.out; have hnc16 := NB102_101.out; have hcz17_0 : wc.cell? ⟨gb101, 0, none⟩ = some (.int .i64 a0_0) := (blk_cell BK101.out 0).trans rfl; have hcz17_1 : wc.cell? ⟨gb101, 1, none⟩ = some (.int .i64 a0_1) := (blk_cell BK101.out 1).trans rfl; have hcz17_2 : wc.cell? ⟨gb101, 2, none⟩ = some (.int .i64 a0_2) := (blk_cell BK101.out 2).trans rfl; have hcz17_3 : wc.cell? ⟨gb101, 3, none⟩ = some (.int .i64 a0_3) := (blk_cell BK101.out 3).trans rfl; have hcz17_4 : wc.cell? ⟨gb101, 4, none⟩ = some (.int .i64 a0_4) := (blk_cell BK101.out 4).trans rfl; have hcz17_5 : wc.cell? ⟨gb101, 5, none⟩ = some (.int .i64 a0_5) := (blk_cell BK101.out 5).trans rfl; have hcz17_6 : wc.cell? ⟨gb101, 6, none⟩ = some (.slice A0_6 l0_6.length c0_6) := (blk_cell BK101.out 6).trans rfl; have hfz17_0 := blk_frozen BK101.out 0; have hfz17_1 := blk_frozen BK101.out 1; have hfz17_2 := blk_frozen BK101.out 2; have hfz17_3 := blk_frozen BK101.out 3; have hfz17_4 := blk_frozen BK101.out 4; have hfz17_5 := blk_frozen BK101.out 5; have hfz17_6 := blk_frozen BK101.out 6
      go_wp2
      go_meet
      case rel => exact ⟨_, (true), pbb2_0, H', ⟨pbb4_1⟩, ⟨pbb2_4⟩, ⟨prr1_2⟩, ⟨prr1_1⟩⟩
     ·rw [if_neg c15] at H; have c15b0 : decide (a0_1 < 1) = false := decide_eq_false c15; clear c15; (first | rw [c15b0] | (simp only [i64_w, i32_w]; rw [c15b0]) | skip)
      by_cases c18 : a0_1 > 1000000000000
      ·rw [if_pos c18] at H; have c18b0 : decide (1000000000000 < a0_1) = true := decide_eq_true c18; clear c18; have H' := Aside0.mk H; clear H; have hnb19 := NB101_102.out; have hnc19 := NB102_101.out; have hcz20_0 : wc.cell? ⟨gb101, 0, none⟩ = some (.int .i64 a0_0) := (blk_cell BK101.out 0).trans rfl; have hcz20_1 : wc.cell? ⟨gb101, 1, none⟩ = some (.int .i64 a0_1) := (blk_cell BK101.out 1).trans rfl; have hcz20_2 : wc.cell? ⟨gb101, 2, none⟩ = some (.int .i64 a0_2) := (blk_cell BK101.out 2).trans rfl; have hcz20_3 : wc.cell? ⟨gb101, 3, none⟩ = some (.int .i64 a0_3) := (blk_cell BK101.out 3).trans rfl; have hcz20_4 : wc.cell? ⟨gb101, 4, none⟩ = some (.int .i64 a0_4) := (blk_cell BK101.out 4).trans rfl; have hcz20_5 : wc.cell? ⟨gb101, 5, none⟩ = some (.int .i64 a0_5) := (blk_cell BK101.out 5).trans rfl; have hcz20_6 : wc.cell? ⟨gb101, 6, none⟩ = some (.slice A0_6 l0_6.length c0_6) := (blk_cell BK101.out 6).trans rfl; have hfz20_0 := blk_frozen BK101.out 0; have hfz20_1 := blk_frozen BK101.out 1; have hfz20_2 := blk_frozen BK101.out 2; have hfz20_3 := blk_frozen BK101.out 3; have hfz20_4 := blk_frozen BK101.out 4; have hfz20_5 := blk_frozen BK101.out 5; have hfz20_6 := blk_frozen BK101.out 6
       go_wp2
       go_meet
       case rel => exact ⟨_, (true), pbb2_0, H', ⟨pbb4_1⟩, ⟨pbb2_4⟩, ⟨prr1_2⟩, ⟨prr1_1⟩⟩
      ·rw [if_neg c18] at H; have c18b0 : decide (1000000000000 < a0_1) = false := decide_eq_false c18; clear c18
       by_cases c21 : a0_2 < 0
       ·rw [if_pos c21] at H; have c21b0 : decide (a0_2 < 0) = true := decide_eq_true c21; clear c21; have H' := Aside0.mk H; clear H; have hnb22 := NB101_102.out; have hnc22 := NB102_101.out; have hcz23_0 : wc.cell? ⟨gb101, 0, none⟩ = some (.int .i64 a0_0) := (blk_cell BK101.out 0).trans rfl; have hcz23_1 : wc.cell? ⟨gb101, 1, none⟩ = some (.int .i64 a0_1) := (blk_cell BK101.out 1).trans rfl; have hcz23_2 : wc.cell? ⟨gb101, 2, none⟩ = some (.int .i64 a0_2) := (blk_cell BK101.out 2).trans rfl; have hcz23_3 : wc.cell? ⟨gb101, 3, none⟩ = some (.int .i64 a0_3) := (blk_cell BK101.out 3).trans rfl; have hcz23_4 : wc.cell? ⟨gb101, 4, none⟩ = some (.int .i64 a0_4) := (blk_cell BK101.out 4).trans rfl; have hcz23_5 : wc.cell? ⟨gb101, 5, none⟩ = some (.int .i64 a0_5) := (blk_cell BK101.out 5).trans rfl; have hcz23_6 : wc.cell? ⟨gb101, 6, none⟩ = some (.slice A0_6 l0_6.length c0_6) := (blk_cell BK101.out 6).trans rfl; have hfz23_0 := blk_frozen BK101.out 0; have hfz23_1 := blk_frozen BK101.out 1; have hfz23_2 := blk_frozen BK101.out 2; have hfz23_3 := blk_frozen BK101.out 3; have hfz23_4 := blk_frozen BK101.out 4; have hfz23_5 := blk_frozen BK101.out 5; have hfz23_6 := blk_frozen BK101.out 6
        go_wp2
        go_meet
        case rel => exact ⟨_, (true), pbb2_0, H', ⟨pbb4_1⟩, ⟨pbb2_4⟩, ⟨prr1_2⟩, ⟨prr1_1⟩⟩
       ·rw [if_neg c21] at H; have c21b0 : decide (a0_2 < 0) = false := decide_eq_false c21; clear c21
        by_cases c24 : a0_2 > a0_1
        ·rw [if_pos c24] at H; have c24b0 : decide (a0_1 < a0_2) = true := decide_eq_true c24; clear c24; have H' := Aside0.mk H; clear H; have hnb25 := NB101_102.out; have hnc25 := NB102_101.out; have hcz26_0 : wc.cell? ⟨gb101, 0, none⟩ = some (.int .i64 a0_0) := (blk_cell BK101.out 0).trans rfl; have hcz26_1 : wc.cell? ⟨gb101, 1, none⟩ = some (.int .i64 a0_1) := (blk_cell BK101.out 1).trans rfl; have hcz26_2 : wc.cell? ⟨gb101, 2, none⟩ = some (.int .i64 a0_2) := (blk_cell BK101.out 2).trans rfl; have hcz26_3 : wc.cell? ⟨gb101, 3, none⟩ = some (.int .i64 a0_3) := (blk_cell BK101.out 3).trans rfl; have hcz26_4 : wc.cell? ⟨gb101, 4, none⟩ = some (.int .i64 a0_4) := (blk_cell BK101.out 4).trans rfl; have hcz26_5 : wc.cell? ⟨gb101, 5, none⟩ = some (.int .i64 a0_5) := (blk_cell BK101.out 5).trans rfl; have hcz26_6 : wc.cell? ⟨gb101, 6, none⟩ = some (.slice A0_6 l0_6.length c0_6) := (blk_cell BK101.out 6).trans rfl; have hfz26_0 := blk_frozen BK101.out 0; have hfz26_1 := blk_frozen BK101.out 1; have hfz26_2 := blk_frozen BK101.out 2; have hfz26_3 := blk_frozen BK101.out 3; have hfz26_4 := blk_frozen BK101.out 4; have hfz26_5 := blk_frozen BK101.out 5; have hfz26_6 := blk_frozen BK101.out 6
         go_wp2
         go_meet
         case rel => exact ⟨_, (true), pbb2_0, H', ⟨pbb4_1⟩, ⟨pbb2_4⟩, ⟨prr1_2⟩, ⟨prr1_1⟩⟩
        ·rw [if_neg c24] at H; have c24b0 : decide (a0_1 < a0_2) = false := decide_eq_false c24; clear c24
         by_cases c27 : a0_3 < 1
         ·rw [if_pos c27] at H; have c27b0 : decide (a0_3 < 1) = true := decide_eq_true c27; clear c27; have H' := Aside0.mk H; clear H; have hnb28 := NB101_102.out; have hnc28 := NB102_101.out; have hcz29_0 : wc.cell? ⟨gb101, 0, none⟩ = some (.int .i64 a0_0) := (blk_cell BK101.out 0).trans rfl; have hcz29_1 : wc.cell? ⟨gb101, 1, none⟩ = some (.int .i64 a0_1) := (blk_cell BK101.out 1).trans rfl; have hcz29_2 : wc.cell? ⟨gb101, 2, none⟩ = some (.int .i64 a0_2) := (blk_cell BK101.out 2).trans rfl; have hcz29_3 : wc.cell? ⟨gb101, 3, none⟩ = some (.int .i64 a0_3) := (blk_cell BK101.out 3).trans rfl; have hcz29_4 : wc.cell? ⟨gb101, 4, none⟩ = some (.int .i64 a0_4) := (blk_cell BK101.out 4).trans rfl; have hcz29_5 : wc.cell? ⟨gb101, 5, none⟩ = some (.int .i64 a0_5) := (blk_cell BK101.out 5).trans rfl; have hcz29_6 : wc.cell? ⟨gb101, 6, none⟩ = some (.slice A0_6 l0_6.length c0_6) := (blk_cell BK101.out 6).trans rfl; have hfz29_0 := blk_frozen BK101.out 0; have hfz29_1 := blk_frozen BK101.out 1; have hfz29_2 := blk_frozen BK101.out 2; have hfz29_3 := blk_frozen BK101.out 3; have hfz29_4 := blk_frozen BK101.out 4; have hfz29_5 := blk_frozen BK101.out 5; have hfz29_6 := blk_frozen BK101.out 6
          go_wp2
          go_meet
          case rel => exact ⟨_, (true), pbb2_0, H', ⟨pbb4_1⟩, ⟨pbb2_4⟩, ⟨prr1_2⟩, ⟨prr1_1⟩⟩
         ·rw [if_neg c27] at H; have c27b0 : decide (a0_3 < 1) = false := decide_eq_false c27; clear c27; have H' := Aside0.mk H; clear H; have hnb30 := NB101_102.out; have hnc30 := NB102_101.out; have hcz31_0 : wc.cell? ⟨gb101, 0, none⟩ = some (.int .i64 a0_0) := (blk_cell BK101.out 0).trans rfl; have hcz31_1 : wc.cell? ⟨gb101, 1, none⟩ = some (.int .i64 a0_1) := (blk_cell BK101.out 1).trans rfl; have hcz31_2 : wc.cell? ⟨gb101, 2, none⟩ = some (.int .i64 a0_2) := (blk_cell BK101.out 2).trans rfl; have hcz31_3 : wc.cell? ⟨gb101, 3, none⟩ = some (.int .i64 a0_3) := (blk_cell BK101.out 3).trans rfl; have hcz31_4 : wc.cell? ⟨gb101, 4, none⟩ = some (.int .i64 a0_4) := (blk_cell BK101.out 4).trans rfl; have hcz31_5 : wc.cell? ⟨gb101, 5, none⟩ = some (.int .i64 a0_5) := (blk_cell BK101.out 5).trans rfl; have hcz31_6 : wc.cell? ⟨gb101, 6, none⟩ = some (.slice A0_6 l0_6.length c0_6) := (blk_cell BK101.out 6).trans rfl; have hfz31_0 := blk_frozen BK101.out 0; have hfz31_1 := blk_frozen BK101.out 1; have hfz31_2 := blk_frozen BK101.out 2; have hfz31_3 := blk_frozen BK101.out 3; have hfz31_4 := blk_frozen BK101.out 4; have hfz31_5 := blk_frozen BK101.out 5; have hfz31_6 := blk_frozen BK101.out 6
          go_wp2
          go_meet
          case rel => exact ⟨_, (decide (a0_3 > 200)), pbb2_0, H', ⟨pbb4_1⟩, ⟨pbb2_4⟩, ⟨prr1_2⟩, ⟨prr1_1⟩⟩
    case rest =>
     clear HC14; (try clear c1); (try clear c2); (try clear p2); (try clear c3); (try clear c6); (try clear c8); (try clear c8b0); (try clear c9); (try clear c11); (try clear c13); (try clear c15); (try clear c15b0); (try clear c16); (try clear c18); (try clear c18b0); (try clear c19); (try clear c21); (try clear c21b0); (try clear c22); (try clear c24); (try clear c24b0); (try clear c25); (try clear c27); (try clear c27b0); (try clear c28); (try clear c30); (try clear hcz10_0); (try clear hcz10_1); (try clear hcz10_2); (try clear hcz10_3); (try clear hcz10_4); (try clear hcz10_5); (try clear hcz10_6); (try clear hcz12_0); (try clear hcz12_1); (try clear hcz12_2); (try clear hcz12_3); (try clear hcz12_4); (try clear hcz12_5); (try clear hcz12_6); (try clear hcz17_0); (try clear hcz17_1); (try clear hcz17_2); (try clear hcz17_3); (try clear hcz17_4); (try clear hcz17_5); (try clear hcz17_6); (try clear hcz20_0); (try clear hcz20_1); (try clear hcz20_2); (try clear hcz20_3); (try clear hcz20_4); (try clear hcz20_5); (try clear hcz20_6); (try clear hcz23_0); (try clear hcz23_1); (try clear hcz23_2); (try clear hcz23_3); (try clear hcz23_4); (try clear hcz23_5); (try clear hcz23_6); (try clear hcz26_0); (try clear hcz26_1); (try clear hcz26_2); (try clear hcz26_3); (try clear hcz26_4); (try clear hcz26_5); (try clear hcz26_6); (try clear hcz29_0); (try clear hcz29_1); (try clear hcz29_2); (try clear hcz29_3); (try clear hcz29_4); (try clear hcz29_5); (try clear hcz29_6); (try clear hcz31_0); (try clear hcz31_1); (try clear hcz31_2); (try clear hcz31_3); (try clear hcz31_4); (try clear hcz31_5); (try clear hcz31_6); (try clear hcz4_0); (try clear hcz4_1); (try clear hcz4_2); (try clear hcz4_3); (try clear hcz4_4); (try clear hcz4_5); (try clear hcz4_6); (try clear hcz7_0); (try clear hcz7_1); (try clear hfz10_0); (try clear hfz10_1); (try clear hfz10_2); (try clear hfz10_3); (try clear hfz10_4); (try clear hfz10_5); (try clear hfz10_6); (try clear hfz12_0); (try clear hfz12_1); (try clear hfz12_2); (try clear hfz12_3); (try clear hfz12_4); (try clear hfz12_5); (try clear hfz12_6); (try clear hfz17_0); (try clear hfz17_1); (try clear hfz17_2); (try clear hfz17_3); (try clear hfz17_4); (try clear hfz17_5); (try clear hfz17_6); (try clear hfz20_0); (try clear hfz20_1); (try clear hfz20_2); (try clear hfz20_3); (try clear hfz20_4); (try clear hfz20_5); (try clear hfz20_6); (try clear hfz23_0); (try clear hfz23_1); (try clear hfz23_2); (try clear hfz23_3); (try clear hfz23_4); (try clear hfz23_5); (try clear hfz23_6); (try clear hfz26_0); (try clear hfz26_1); (try clear hfz26_2); (try clear hfz26_3); (try clear hfz26_4); (try clear hfz26_5); (try clear hfz26_6); (try clear hfz29_0); (try clear hfz29_1); (try clear hfz29_2); (try clear hfz29_3); (try clear hfz29_4); (try clear hfz29_5); (try clear hfz29_6); (try clear hfz31_0); (try clear hfz31_1); (try clear hfz31_2); (try clear hfz31_3); (try clear hfz31_4); (try clear hfz31_5); (try clear hfz31_6); (try clear hfz4_0); (try clear hfz4_1); (try clear hfz4_2); (try clear hfz4_3); (try clear hfz4_4); (try clear hfz4_5); (try clear hfz4_6); (try clear hfz7_0); (try clear hfz7_1); (try clear p2); obtain ⟨kq, x15_13, rfl, HA, HJ13, BK101, BK102, HB⟩ := hcut
     cases kq with
     | zero => exact absurd HA.out (by simp [accountingref30_Check.j1])
     | succ kj13 =>
      have H := HA.out; clear HA; simp only [accountingref30_Check.j1] at H
      by_cases c32 : x15_13 = true
      ·subst c32; have H1 : (some 3) = some r := by rw [if_pos rfl] at H; exact H
       clear H; have H := H1; clear H1; obtain rfl := Option.some.inj H
       go_wp2
       go_ret
       exact ⟨pbb2_6, prr1_1⟩
      ·replace c32 := Bool.eq_false_iff.mpr c32; subst c32; have H1 : (if a0_0 = 2 then ((accountingref03_Right.f kj13 a0_4 a0_5).bind fun t103 => (if t103 = true then (if a0_4 ≤ 0 then (accountingref30_Check.j2 kj13 true a0_0 a0_1 a0_2 a0_3 a0_4 a0_5 l0_6) else (accountingref30_Check.j2 kj13 (decide (a0_4 ≥ a0_5)) a0_0 a0_1 a0_2 a0_3 a0_4 a0_5 l0_6)) else (accountingref30_Check.j2 kj13 true a0_0 a0_1 a0_2 a0_3 a0_4 a0_5 l0_6))) else (accountingref30_Check.j2 kj13 false a0_0 a0_1 a0_2 a0_3 a0_4 a0_5 l0_6)) = some r := by rw [if_neg (show ¬ (false = true) by decide)] at H; exact H
       clear H; have H := H1; clear H1; have HC33 := Aside0.mk H; clear H
       go_upto_region 6 with (fail)
       go_cut [46] (fun v46 wc => ∃ (kq : Nat) (x46_32 : Bool), v46 = .bool x46_32 ∧ Aside0 (accountingref30_Check.j2 kq x46_32 a0_0 a0_1 a0_2 a0_3 a0_4 a0_5 l0_6 = some r) ∧ Aside0 (kq ≤ kj13) ∧ Aside0 (wc.heap[gb101]? = some (.cells #[.int .i64 a0_0, .int .i64 a0_1, .int .i64 a0_2, .int .i64 a0_3, .int .i64 a0_4, .int .i64 a0_5, (.slice A0_6 l0_6.length c0_6)] 26 (0, 0))) ∧ Aside0 (wc.heap[gb102]? = some (.cells #[.int .i64 a0_4, .int .i64 a0_5] 23 (0, 0))) ∧ Aside0 (Below w.heap.size w wc))
       case first =>
        have H := HC33.out; clear HC33
        by_cases c34 : a0_0 = 2
        ·rw [if_pos c34] at H; have c34b0 : (a0_0 == 2) = true := beq_iff_eq.mpr c34; have c34b1 : (a0_0 != 2) = false := bne_eq_false_iff_eq.mpr c34; clear c34; (first | rw [c34b0] | (simp only [i64_w, i32_w]; rw [c34b0]) | skip); replace H := Option.bind_eq_some_iff.mp H; obtain ⟨t103, A350, H⟩ := H; replace H : (if t103 = true then (if a0_4 ≤ 0 then (accountingref30_Check.j2 kj13 true a0_0 a0_1 a0_2 a0_3 a0_4 a0_5 l0_6) else (accountingref30_Check.j2 kj13 (decide (a0_4 ≥ a0_5)) a0_0 a0_1 a0_2 a0_3 a0_4 a0_5 l0_6)) else (accountingref30_Check.j2 kj13 true a0_0 a0_1 a0_2 a0_3 a0_4 a0_5 l0_6)) = some r := H; have A35 := Aside0.mk A350; clear A350
         by_cases c36 : t103 = true
         ·subst c36; have H1 : (if a0_4 ≤ 0 then (accountingref30_Check.j2 kj13 true a0_0 a0_1 a0_2 a0_3 a0_4 a0_5 l0_6) else (accountingref30_Check.j2 kj13 (decide (a0_4 ≥ a0_5)) a0_0 a0_1 a0_2 a0_3 a0_4 a0_5 l0_6)) = some r := by rw [if_pos rfl] at H; exact H
          clear H; have H := H1; clear H1
          by_cases c37 : a0_4 ≤ 0
          ·rw [if_pos c37] at H; have c37b0 : decide (a0_4 ≤ 0) = true := decide_eq_true c37; clear c37; have H' := Aside0.mk H; clear H; have hnb38 := NB101_102.out; have hnc38 := NB102_101.out; have hcz39_0 : wc.cell? ⟨gb101, 0, none⟩ = some (.int .i64 a0_0) := (blk_cell BK101.out 0).trans rfl; have hcz39_1 : wc.cell? ⟨gb101, 1, none⟩ = some (.int .i64 a0_1) := (blk_cell BK101.out 1).trans rfl; have hcz39_2 : wc.cell? ⟨gb101, 2, none⟩ = some (.int .i64 a0_2) := (blk_cell BK101.out 2).trans rfl; have hcz39_3 : wc.cell? ⟨gb101, 3, none⟩ = some (.int .i64 a0_3) := (blk_cell BK101.out 3).trans rfl; have hcz39_4 : wc.cell? ⟨gb101, 4, none⟩ = some (.int .i64 a0_4) := (blk_cell BK101.out 4).trans rfl; have hcz39_5 : wc.cell? ⟨gb101, 5, none⟩ = some (.int .i64 a0_5) := (blk_cell BK101.out 5).trans rfl; have hcz39_6 : wc.cell? ⟨gb101, 6, none⟩ = some (.slice A0_6 l0_6.length c0_6) := (blk_cell BK101.out 6).trans rfl; have hfz39_0 := blk_frozen BK101.out 0; have hfz39_1 := blk_frozen BK101.out 1; have hfz39_2 := blk_frozen BK101.out 2; have hfz39_3 := blk_frozen BK101.out 3; have hfz39_4 := blk_frozen BK101.out 4; have hfz39_5 := blk_frozen BK101.out 5; have hfz39_6 := blk_frozen BK101.out 6; have hcz40_0 : wc.cell? ⟨gb102, 0, none⟩ = some (.int .i64 a0_4) := (blk_cell BK102.out 0).trans rfl; have hcz40_1 : wc.cell? ⟨gb102, 1, none⟩ = some (.int .i64 a0_5) := (blk_cell BK102.out 1).trans rfl; have hfz40_0 := blk_frozen BK102.out 0; have hfz40_1 := blk_frozen BK102.out 1
           go_wp2_with (first | (go_at_call 19; (with_reducible refine (accountingref03_Right.calls kj13 a0_4 a0_5 true _ A35.out).mono ?_); rintro e w41 ⟨rfl, hb⟩; have n0_ := Aside0.mk (blk_below (g := gb101) (o := .cells #[.int .i64 a0_0, .int .i64 a0_1, .int .i64 a0_2, .int .i64 a0_3, .int .i64 a0_4, .int .i64 a0_5, .slice A0_6 l0_6.length c0_6] 26 (0, 0)) pbb2_4 hb); have n1_ := Aside0.mk (blk_below (g := gb102) (o := .cells #[.int .i64 a0_4, .int .i64 a0_5] 23 (0, 0)) prr1_2 hb); have n2_ := Aside0.mk (below_step prr1_1 hb); clear BK101; clear BK102; clear HB; have BK101 := n0_; have BK102 := n1_; have HB := n2_; clear n0_ n1_ n2_; (try clear hb); (try clear hb2); (try clear hk); (try clear hi); have hcz42_0 : w41.cell? ⟨gb102, 0, none⟩ = some (.int .i64 a0_4) := (blk_cell BK102.out 0).trans rfl; have hcz42_1 : w41.cell? ⟨gb102, 1, none⟩ = some (.int .i64 a0_5) := (blk_cell BK102.out 1).trans rfl; have hfz42_0 := blk_frozen BK102.out 0; have hfz42_1 := blk_frozen BK102.out 1))
           go_meet
           case rel => exact ⟨_, (true), pbb2_0, H', ⟨prr1_3⟩, ⟨pbb2_4⟩, ⟨prr1_2⟩, ⟨prr1_1⟩⟩
          ·rw [if_neg c37] at H; have c37b0 : decide (a0_4 ≤ 0) = false := decide_eq_false c37; clear c37; have H' := Aside0.mk H; clear H; have hnb43 := NB101_102.out; have hnc43 := NB102_101.out; have hcz44_0 : wc.cell? ⟨gb101, 0, none⟩ = some (.int .i64 a0_0) := (blk_cell BK101.out 0).trans rfl; have hcz44_1 : wc.cell? ⟨gb101, 1, none⟩ = some (.int .i64 a0_1) := (blk_cell BK101.out 1).trans rfl; have hcz44_2 : wc.cell? ⟨gb101, 2, none⟩ = some (.int .i64 a0_2) := (blk_cell BK101.out 2).trans rfl; have hcz44_3 : wc.cell? ⟨gb101, 3, none⟩ = some (.int .i64 a0_3) := (blk_cell BK101.out 3).trans rfl; have hcz44_4 : wc.cell? ⟨gb101, 4, none⟩ = some (.int .i64 a0_4) := (blk_cell BK101.out 4).trans rfl; have hcz44_5 : wc.cell? ⟨gb101, 5, none⟩ = some (.int .i64 a0_5) := (blk_cell BK101.out 5).trans rfl; have hcz44_6 : wc.cell? ⟨gb101, 6, none⟩ = some (.slice A0_6 l0_6.length c0_6) := (blk_cell BK101.out 6).trans rfl; have hfz44_0 := blk_frozen BK101.out 0; have hfz44_1 := blk_frozen BK101.out 1; have hfz44_2 := blk_frozen BK101.out 2; have hfz44_3 := blk_frozen BK101.out 3; have hfz44_4 := blk_frozen BK101.out 4; have hfz44_5 := blk_frozen BK101.out 5; have hfz44_6 := blk_frozen BK101.out 6; have hcz45_0 : wc.cell? ⟨gb102, 0, none⟩ = some (.int .i64 a0_4) := (blk_cell BK102.out 0).trans rfl; have hcz45_1 : wc.cell? ⟨gb102, 1, none⟩ = some (.int .i64 a0_5) := (blk_cell BK102.out 1).trans rfl; have hfz45_0 := blk_frozen BK102.out 0; have hfz45_1 := blk_frozen BK102.out 1
           go_wp2_with (first | (go_at_call 19; (with_reducible refine (accountingref03_Right.calls kj13 a0_4 a0_5 true _ A35.out).mono ?_); rintro e w46 ⟨rfl, hb⟩; have n0_ := Aside0.mk (blk_below (g := gb101) (o := .cells #[.int .i64 a0_0, .int .i64 a0_1, .int .i64 a0_2, .int .i64 a0_3, .int .i64 a0_4, .int .i64 a0_5, .slice A0_6 l0_6.length c0_6] 26 (0, 0)) pbb2_4 hb); have n1_ := Aside0.mk (blk_below (g := gb102) (o := .cells #[.int .i64 a0_4, .int .i64 a0_5] 23 (0, 0)) prr1_2 hb); have n2_ := Aside0.mk (below_step prr1_1 hb); clear BK101; clear BK102; clear HB; have BK101 := n0_; have BK102 := n1_; have HB := n2_; clear n0_ n1_ n2_; (try clear hb); (try clear hb2); (try clear hk); (try clear hi); have hcz47_0 : w46.cell? ⟨gb102, 0, none⟩ = some (.int .i64 a0_4) := (blk_cell BK102.out 0).trans rfl; have hcz47_1 : w46.cell? ⟨gb102, 1, none⟩ = some (.int .i64 a0_5) := (blk_cell BK102.out 1).trans rfl; have hfz47_0 := blk_frozen BK102.out 0; have hfz47_1 := blk_frozen BK102.out 1))
           go_meet
           case rel => exact ⟨_, (decide (a0_4 ≥ a0_5)), pbb2_0, H', ⟨prr1_3⟩, ⟨pbb2_4⟩, ⟨prr1_2⟩, ⟨prr1_1⟩⟩
         ·replace c36 := Bool.eq_false_iff.mpr c36; subst c36; have H1 : (accountingref30_Check.j2 kj13 true a0_0 a0_1 a0_2 a0_3 a0_4 a0_5 l0_6) = some r := by rw [if_neg (show ¬ (false = true) by decide)] at H; exact H
          clear H; have H := H1; clear H1; have H' := Aside0.mk H; clear H; have hnb48 := NB101_102.out; have hnc48 := NB102_101.out; have hcz49_0 : wc.cell? ⟨gb101, 0, none⟩ = some (.int .i64 a0_0) := (blk_cell BK101.out 0).trans rfl; have hcz49_1 : wc.cell? ⟨gb101, 1, none⟩ = some (.int .i64 a0_1) := (blk_cell BK101.out 1).trans rfl; have hcz49_2 : wc.cell? ⟨gb101, 2, none⟩ = some (.int .i64 a0_2) := (blk_cell BK101.out 2).trans rfl; have hcz49_3 : wc.cell? ⟨gb101, 3, none⟩ = some (.int .i64 a0_3) := (blk_cell BK101.out 3).trans rfl; have hcz49_4 : wc.cell? ⟨gb101, 4, none⟩ = some (.int .i64 a0_4) := (blk_cell BK101.out 4).trans rfl; have hcz49_5 : wc.cell? ⟨gb101, 5, none⟩ = some (.int .i64 a0_5) := (blk_cell BK101.out 5).trans rfl; have hcz49_6 : wc.cell? ⟨gb101, 6, none⟩ = some (.slice A0_6 l0_6.length c0_6) := (blk_cell BK101.out 6).trans rfl; have hfz49_0 := blk_frozen BK101.out 0; have hfz49_1 := blk_frozen BK101.out 1; have hfz49_2 := blk_frozen BK101.out 2; have hfz49_3 := blk_frozen BK101.out 3; have hfz49_4 := blk_frozen BK101.out 4; have hfz49_5 := blk_frozen BK101.out 5; have hfz49_6 := blk_frozen BK101.out 6; have hcz50_0 : wc.cell? ⟨gb102, 0, none⟩ = some (.int .i64 a0_4) := (blk_cell BK102.out 0).trans rfl; have hcz50_1 : wc.cell? ⟨gb102, 1, none⟩ = some (.int .i64 a0_5) := (blk_cell BK102.out 1).trans rfl; have hfz50_0 := blk_frozen BK102.out 0; have hfz50_1 := blk_frozen BK102.out 1
          go_wp2_with (first | (go_at_call 19; (with_reducible refine (accountingref03_Right.calls kj13 a0_4 a0_5 false _ A35.out).mono ?_); rintro e w51 ⟨rfl, hb⟩; have n0_ := Aside0.mk (blk_below (g := gb101) (o := .cells #[.int .i64 a0_0, .int .i64 a0_1, .int .i64 a0_2, .int .i64 a0_3, .int .i64 a0_4, .int .i64 a0_5, .slice A0_6 l0_6.length c0_6] 26 (0, 0)) pbb2_4 hb); have n1_ := Aside0.mk (blk_below (g := gb102) (o := .cells #[.int .i64 a0_4, .int .i64 a0_5] 23 (0, 0)) prr1_2 hb); have n2_ := Aside0.mk (below_step prr1_1 hb); clear BK101; clear BK102; clear HB; have BK101 := n0_; have BK102 := n1_; have HB := n2_; clear n0_ n1_ n2_; (try clear hb); (try clear hb2); (try clear hk); (try clear hi)))
          go_meet
          case rel => exact ⟨_, (true), pbb2_0, H', ⟨prr1_3⟩, ⟨pbb2_4⟩, ⟨prr1_2⟩, ⟨prr1_1⟩⟩
        ·rw [if_neg c34] at H; have c34b0 : (a0_0 == 2) = false := beq_eq_false_iff_ne.mpr c34; have c34b1 : (a0_0 != 2) = true := bne_iff_ne.mpr c34; (first | rw [c34b0] | (simp only [i64_w, i32_w]; rw [c34b0]) | skip); have H' := Aside0.mk H; clear H; have hnb52 := NB101_102.out; have hnc52 := NB102_101.out; have hcz53_0 : wc.cell? ⟨gb101, 0, none⟩ = some (.int .i64 a0_0) := (blk_cell BK101.out 0).trans rfl; have hcz53_1 : wc.cell? ⟨gb101, 1, none⟩ = some (.int .i64 a0_1) := (blk_cell BK101.out 1).trans rfl; have hcz53_2 : wc.cell? ⟨gb101, 2, none⟩ = some (.int .i64 a0_2) := (blk_cell BK101.out 2).trans rfl; have hcz53_3 : wc.cell? ⟨gb101, 3, none⟩ = some (.int .i64 a0_3) := (blk_cell BK101.out 3).trans rfl; have hcz53_4 : wc.cell? ⟨gb101, 4, none⟩ = some (.int .i64 a0_4) := (blk_cell BK101.out 4).trans rfl; have hcz53_5 : wc.cell? ⟨gb101, 5, none⟩ = some (.int .i64 a0_5) := (blk_cell BK101.out 5).trans rfl; have hcz53_6 : wc.cell? ⟨gb101, 6, none⟩ = some (.slice A0_6 l0_6.length c0_6) := (blk_cell BK101.out 6).trans rfl; have hfz53_0 := blk_frozen BK101.out 0; have hfz53_1 := blk_frozen BK101.out 1; have hfz53_2 := blk_frozen BK101.out 2; have hfz53_3 := blk_frozen BK101.out 3; have hfz53_4 := blk_frozen BK101.out 4; have hfz53_5 := blk_frozen BK101.out 5; have hfz53_6 := blk_frozen BK101.out 6
         go_wp2
         go_meet
         case rel => exact ⟨_, (false), pbb2_0, H', ⟨prr1_3⟩, ⟨pbb2_4⟩, ⟨prr1_2⟩, ⟨prr1_1⟩⟩
       case rest =>
        clear HC33; (try clear c1); (try clear c2); (try clear p2); (try clear c3); (try clear c4); (try clear c5); (try clear c6); (try clear c8); (try clear c8b0); (try clear c9); (try clear c11); (try clear c13); (try clear c15); (try clear c15b0); (try clear c16); (try clear c18); (try clear c18b0); (try clear c19); (try clear c21); (try clear c21b0); (try clear c22); (try clear c24); (try clear c24b0); (try clear c25); (try clear c27); (try clear c27b0); (try clear c28); (try clear c30); (try clear c32); (try clear c34); (try clear c34b0); (try clear c34b1); (try clear c36); (try clear c37); (try clear c37b0); (try clear c38); (try clear c43); (try clear c48); (try clear c52); (try clear hcz10_0); (try clear hcz10_1); (try clear hcz10_2); (try clear hcz10_3); (try clear hcz10_4); (try clear hcz10_5); (try clear hcz10_6); (try clear hcz12_0); (try clear hcz12_1); (try clear hcz12_2); (try clear hcz12_3); (try clear hcz12_4); (try clear hcz12_5); (try clear hcz12_6); (try clear hcz17_0); (try clear hcz17_1); (try clear hcz17_2); (try clear hcz17_3); (try clear hcz17_4); (try clear hcz17_5); (try clear hcz17_6); (try clear hcz20_0); (try clear hcz20_1); (try clear hcz20_2); (try clear hcz20_3); (try clear hcz20_4); (try clear hcz20_5); (try clear hcz20_6); (try clear hcz23_0); (try clear hcz23_1); (try clear hcz23_2); (try clear hcz23_3); (try clear hcz23_4); (try clear hcz23_5); (try clear hcz23_6); (try clear hcz26_0); (try clear hcz26_1); (try clear hcz26_2); (try clear hcz26_3); (try clear hcz26_4); (try clear hcz26_5); (try clear hcz26_6); (try clear hcz29_0); (try clear hcz29_1); (try clear hcz29_2); (try clear hcz29_3); (try clear hcz29_4); (try clear hcz29_5); (try clear hcz29_6); (try clear hcz31_0); (try clear hcz31_1); (try clear hcz31_2); (try clear hcz31_3); (try clear hcz31_4); (try clear hcz31_5); (try clear hcz31_6); (try clear hcz39_0); (try clear hcz39_1); (try clear hcz39_2); (try clear hcz39_3); (try clear hcz39_4); (try clear hcz39_5); (try clear hcz39_6); (try clear hcz40_0); (try clear hcz40_1); (try clear hcz42_0); (try clear hcz42_1); (try clear hcz44_0); (try clear hcz44_1); (try clear hcz44_2); (try clear hcz44_3); (try clear hcz44_4); (try clear hcz44_5); (try clear hcz44_6); (try clear hcz45_0); (try clear hcz45_1); (try clear hcz47_0); (try clear hcz47_1); (try clear hcz49_0); (try clear hcz49_1); (try clear hcz49_2); (try clear hcz49_3); (try clear hcz49_4); (try clear hcz49_5); (try clear hcz49_6); (try clear hcz4_0); (try clear hcz4_1); (try clear hcz4_2); (try clear hcz4_3); (try clear hcz4_4); (try clear hcz4_5); (try clear hcz4_6); (try clear hcz50_0); (try clear hcz50_1); (try clear hcz53_0); (try clear hcz53_1); (try clear hcz53_2); (try clear hcz53_3); (try clear hcz53_4); (try clear hcz53_5); (try clear hcz53_6); (try clear hcz7_0); (try clear hcz7_1); (try clear hfz10_0); (try clear hfz10_1); (try clear hfz10_2); (try clear hfz10_3); (try clear hfz10_4); (try clear hfz10_5); (try clear hfz10_6); (try clear hfz12_0); (try clear hfz12_1); (try clear hfz12_2); (try clear hfz12_3); (try clear hfz12_4); (try clear hfz12_5); (try clear hfz12_6); (try clear hfz17_0); (try clear hfz17_1); (try clear hfz17_2); (try clear hfz17_3); (try clear hfz17_4); (try clear hfz17_5); (try clear hfz17_6); (try clear hfz20_0); (try clear hfz20_1); (try clear hfz20_2); (try clear hfz20_3); (try clear hfz20_4); (try clear hfz20_5); (try clear hfz20_6); (try clear hfz23_0); (try clear hfz23_1); (try clear hfz23_2); (try clear hfz23_3); (try clear hfz23_4); (try clear hfz23_5); (try clear hfz23_6); (try clear hfz26_0); (try clear hfz26_1); (try clear hfz26_2); (try clear hfz26_3); (try clear hfz26_4); (try clear hfz26_5); (try clear hfz26_6); (try clear hfz29_0); (try clear hfz29_1); (try clear hfz29_2); (try clear hfz29_3); (try clear hfz29_4); (try clear hfz29_5); (try clear hfz29_6); (try clear hfz31_0); (try clear hfz31_1); (try clear hfz31_2); (try clear hfz31_3); (try clear hfz31_4); (try clear hfz31_5); (try clear hfz31_6); (try clear hfz39_0); (try clear hfz39_1); (try clear hfz39_2); (try clear hfz39_3); (try clear hfz39_4); (try clear hfz39_5); (try clear hfz39_6); (try clear hfz40_0); (try clear hfz40_1); (try clear hfz42_0); (try clear hfz42_1); (try clear hfz44_0); (try clear hfz44_1); (try clear hfz44_2); (try clear hfz44_3); (try clear hfz44_4); (try clear hfz44_5); (try clear hfz44_6); (try clear hfz45_0); (try clear hfz45_1); (try clear hfz47_0); (try clear hfz47_1); (try clear hfz49_0); (try clear hfz49_1); (try clear hfz49_2); (try clear hfz49_3); (try clear hfz49_4); (try clear hfz49_5); (try clear hfz49_6); (try clear hfz4_0); (try clear hfz4_1); (try clear hfz4_2); (try clear hfz4_3); (try clear hfz4_4); (try clear hfz4_5); (try clear hfz4_6); (try clear hfz50_0); (try clear hfz50_1); (try clear hfz53_0); (try clear hfz53_1); (try clear hfz53_2); (try clear hfz53_3); (try clear hfz53_4); (try clear hfz53_5); (try clear hfz53_6); (try clear hfz7_0); (try clear hfz7_1); (try clear p2); obtain ⟨kq, x46_32, rfl, HA, HJ32, BK101, BK102, HB⟩ := hcut
        cases kq with
        | zero => exact absurd HA.out (by simp [accountingref30_Check.j2])
        | succ kj32 =>
         have H := HA.out; clear HA; simp only [accountingref30_Check.j2] at H
         by_cases c54 : x46_32 = true
         ·subst c54; have H1 : (some 2) = some r := by rw [if_pos rfl] at H; exact H
          clear H; have H := H1; clear H1; obtain rfl := Option.some.inj H
          go_wp2
          go_ret
          exact ⟨pbb2_6, prr1_1⟩
         ·replace c54 := Bool.eq_false_iff.mpr c54; subst c54; have H1 : (if a0_0 = 4 then ((accountingref30_units.f kj32 a0_0 a0_1 a0_2 a0_3 a0_4 a0_5 l0_6).bind fun t104 => (if t104 = true then (some 0) else (some 2))) else (some 0)) = some r := by rw [if_neg (show ¬ (false = true) by decide)] at H; exact H
          clear H; have H := H1; clear H1
          by_cases c55 : a0_0 = 4
          ·rw [if_pos c55] at H; have c55b0 : (a0_0 == 4) = true := beq_iff_eq.mpr c55; have c55b1 : (a0_0 != 4) = false := bne_eq_false_iff_eq.mpr c55; clear c55; replace H := Option.bind_eq_some_iff.mp H; obtain ⟨t104, A560, H⟩ := H; replace H : (if t104 = true then (some 0) else (some 2)) = some r := H; have A56 := Aside0.mk A560; clear A560
           by_cases c57 : t104 = true
           ·subst c57; have H1 : (some 0) = some r := by rw [if_pos rfl] at H; exact H
            clear H; have H := H1; clear H1; obtain rfl := Option.some.inj H; have hnb58 := NB101_102.out; have hnc58 := NB102_101.out; have hcz59_0 : wc.cell? ⟨gb101, 0, none⟩ = some (.int .i64 a0_0) := (blk_cell BK101.out 0).trans rfl; have hcz59_1 : wc.cell? ⟨gb101, 1, none⟩ = some (.int .i64 a0_1) := (blk_cell BK101.out 1).trans rfl; have hcz59_2 : wc.cell? ⟨gb101, 2, none⟩ = some (.int .i64 a0_2) := (blk_cell BK101.out 2).trans rfl; have hcz59_3 : wc.cell? ⟨gb101, 3, none⟩ = some (.int .i64 a0_3) := (blk_cell BK101.out 3).trans rfl; have hcz59_4 : wc.cell? ⟨gb101, 4, none⟩ = some (.int .i64 a0_4) := (blk_cell BK101.out 4).trans rfl; have hcz59_5 : wc.cell? ⟨gb101, 5, none⟩ = some (.int .i64 a0_5) := (blk_cell BK101.out 5).trans rfl; have hcz59_6 : wc.cell? ⟨gb101, 6, none⟩ = some (.slice A0_6 l0_6.length c0_6) := (blk_cell BK101.out 6).trans rfl; have hfz59_0 := blk_frozen BK101.out 0; have hfz59_1 := blk_frozen BK101.out 1; have hfz59_2 := blk_frozen BK101.out 2; have hfz59_3 := blk_frozen BK101.out 3; have hfz59_4 := blk_frozen BK101.out 4; have hfz59_5 := blk_frozen BK101.out 5; have hfz59_6 := blk_frozen BK101.out 6
            go_wp2_with (first | (go_at_call 20; (with_reducible refine (accountingref30_units.calls kj32 a0_0 a0_1 a0_2 a0_3 a0_4 a0_5 _ _ l0_6 true _ ?side1 ?side2 A56.out).mono ?_); (case side1 => repeat (first | exact (Kd.C_below HR0_6.out HB.out) | (with_reducible refine Kd.C_alloc ?_ _) | (with_reducible refine Kd.C_drewN ?_ _) | (with_reducible refine Kd.C_drew ?_))); (case side2 => exact HC0_6.out); rintro e w60 ⟨rfl, hb⟩; have n0_ := Aside0.mk (blk_below (g := gb101) (o := .cells #[.int .i64 a0_0, .int .i64 a0_1, .int .i64 a0_2, .int .i64 a0_3, .int .i64 a0_4, .int .i64 a0_5, .slice A0_6 l0_6.length c0_6] 26 (0, 0)) pbb2_4 hb); have n1_ := Aside0.mk (blk_below (g := gb102) (o := .cells #[.int .i64 a0_4, .int .i64 a0_5] 23 (0, 0)) prr1_2 hb); have n2_ := Aside0.mk (below_step prr1_1 hb); clear BK101; clear BK102; clear HB; have BK101 := n0_; have BK102 := n1_; have HB := n2_; clear n0_ n1_ n2_; (try clear hb); (try clear hb2); (try clear hk); (try clear hi)))
            go_ret
            exact ⟨pbb2_6, prr1_1⟩
           ·replace c57 := Bool.eq_false_iff.mpr c57; subst c57; have H1 : (some 2) = some r := by rw [if_neg (show ¬ (false = true) by decide)] at H; exact H
            clear H; have H := H1; clear H1; obtain rfl := Option.some.inj H; have hnb61 := NB101_102.out; have hnc61 := NB102_101.out; have hcz62_0 : wc.cell? ⟨gb101, 0, none⟩ = some (.int .i64 a0_0) := (blk_cell BK101.out 0).trans rfl; have hcz62_1 : wc.cell? ⟨gb101, 1, none⟩ = some (.int .i64 a0_1) := (blk_cell BK101.out 1).trans rfl; have hcz62_2 : wc.cell? ⟨gb101, 2, none⟩ = some (.int .i64 a0_2) := (blk_cell BK101.out 2).trans rfl; have hcz62_3 : wc.cell? ⟨gb101, 3, none⟩ = some (.int .i64 a0_3) := (blk_cell BK101.out 3).trans rfl; have hcz62_4 : wc.cell? ⟨gb101, 4, none⟩ = some (.int .i64 a0_4) := (blk_cell BK101.out 4).trans rfl; have hcz62_5 : wc.cell? ⟨gb101, 5, none⟩ = some (.int .i64 a0_5) := (blk_cell BK101.out 5).trans rfl; have hcz62_6 : wc.cell? ⟨gb101, 6, none⟩ = some (.slice A0_6 l0_6.length c0_6) := (blk_cell BK101.out 6).trans rfl; have hfz62_0 := blk_frozen BK101.out 0; have hfz62_1 := blk_frozen BK101.out 1; have hfz62_2 := blk_frozen BK101.out 2; have hfz62_3 := blk_frozen BK101.out 3; have hfz62_4 := blk_frozen BK101.out 4; have hfz62_5 := blk_frozen BK101.out 5; have hfz62_6 := blk_frozen BK101.out 6
            go_wp2_with (first | (go_at_call 20; (with_reducible refine (accountingref30_units.calls kj32 a0_0 a0_1 a0_2 a0_3 a0_4 a0_5 _ _ l0_6 false _ ?side1 ?side2 A56.out).mono ?_); (case side1 => repeat (first | exact (Kd.C_below HR0_6.out HB.out) | (with_reducible refine Kd.C_alloc ?_ _) | (with_reducible refine Kd.C_drewN ?_ _) | (with_reducible refine Kd.C_drew ?_))); (case side2 => exact HC0_6.out); rintro e w63 ⟨rfl, hb⟩; have n0_ := Aside0.mk (blk_below (g := gb101) (o := .cells #[.int .i64 a0_0, .int .i64 a0_1, .int .i64 a0_2, .int .i64 a0_3, .int .i64 a0_4, .int .i64 a0_5, .slice A0_6 l0_6.length c0_6] 26 (0, 0)) pbb2_4 hb); have n1_ := Aside0.mk (blk_below (g := gb102) (o := .cells #[.int .i64 a0_4, .int .i64 a0_5] 23 (0, 0)) prr1_2 hb); have n2_ := Aside0.mk (below_step prr1_1 hb); clear BK101; clear BK102; clear HB; have BK101 := n0_; have BK102 := n1_; have HB := n2_; clear n0_ n1_ n2_; (try clear hb); (try clear hb2); (try clear hk); (try clear hi)))
            go_ret
            exact ⟨pbb2_6, prr1_1⟩
          ·rw [if_neg c55] at H; have c55b0 : (a0_0 == 4) = false := beq_eq_false_iff_ne.mpr c55; have c55b1 : (a0_0 != 4) = true := bne_iff_ne.mpr c55; obtain rfl := Option.some.inj H; have hnb64 := NB101_102.out; have hnc64 := NB102_101.out; have hcz65_0 : wc.cell? ⟨gb101, 0, none⟩ = some (.int .i64 a0_0) := (blk_cell BK101.out 0).trans rfl; have hcz65_1 : wc.cell? ⟨gb101, 1, none⟩ = some (.int .i64 a0_1) := (blk_cell BK101.out 1).trans rfl; have hcz65_2 : wc.cell? ⟨gb101, 2, none⟩ = some (.int .i64 a0_2) := (blk_cell BK101.out 2).trans rfl; have hcz65_3 : wc.cell? ⟨gb101, 3, none⟩ = some (.int .i64 a0_3) := (blk_cell BK101.out 3).trans rfl; have hcz65_4 : wc.cell? ⟨gb101, 4, none⟩ = some (.int .i64 a0_4) := (blk_cell BK101.out 4).trans rfl; have hcz65_5 : wc.cell? ⟨gb101, 5, none⟩ = some (.int .i64 a0_5) := (blk_cell BK101.out 5).trans rfl; have hcz65_6 : wc.cell? ⟨gb101, 6, none⟩ = some (.slice A0_6 l0_6.length c0_6) := (blk_cell BK101.out 6).trans rfl; have hfz65_0 := blk_frozen BK101.out 0; have hfz65_1 := blk_frozen BK101.out 1; have hfz65_2 := blk_frozen BK101.out 2; have hfz65_3 := blk_frozen BK101.out 3; have hfz65_4 := blk_frozen BK101.out 4; have hfz65_5 := blk_frozen BK101.out 5; have hfz65_6 := blk_frozen BK101.out 6
           go_wp2
           go_ret
           exact ⟨pbb2_6, prr1_1⟩
end Go.Proofs.Ytadognlkefhoiaa.M
end
section
namespace Go.Proofs.Ytadognlkefhoiaa.M
open Go.RowKit Go.Proofs.YtadognlkefhoiaaW.PrintWords Go.Proofs.YtadognlkefhoiaaW.PrintLast Go.Proofs.YtadognlkefhoiaaW.PrintMore Dv
set_option linter.unusedVariables false
set_option linter.unusedSimpArgs false
theorem accountingref30_units.go (a b c n d e : Int) : ∀ (B A : List Int) (x : Bool) (i : Int), i = (A.length : Int) → (A ++ B).length < 1000000000 → Ev (fun k => accountingref30_units.l0 k x i a b c n d e (A ++ B)) ((allB B && (x || posB B)) && (((A ++ B).length : Int) == n))
  | [], A, x, i, hi, hs => by
    refine Ev.succ ?_; have g : ¬ i < ((A ++ []).length : Int) := by simp; omega
    simp only [accountingref30_units.l0, if_neg g]
    cases x with
    | true => simp only [if_true]; simpa [allB, posB] using Ev.const _
    | false => simp only [Bool.false_eq_true, if_false]; simpa [allB, posB] using Ev.const _
  | y :: B, A, x, i, hi, hs => by
    have hs' : A.length + B.length + 1 < 1000000000 := by simp at hs; omega
    have g1 : 0 ≤ i := by omega
    have g2 : i < ((A ++ y :: B).length : Int) := by simp; omega
    have r := rd_at A y B i hi; have ew : wrap64 (i + 1) = i + 1 := w64 (by omega) (by omega); refine Ev.succ ?_; simp only [accountingref30_units.l0, if_pos g1, if_pos g2, r, ew]
    by_cases c1 : y < 0
    · simp only [if_pos c1]; have : (allB (y :: B) && (x || posB (y :: B))) = false := by simp [allB]; omega
      rw [this]; exact Ev.const _
    simp only [if_neg c1]
    by_cases c2 : y > 1000000000
    · simp only [if_pos c2]; have : (allB (y :: B) && (x || posB (y :: B))) = false := by simp [allB]; omega
      rw [this]; exact Ev.const _
    simp only [if_neg c2]; have ha : allB (y :: B) = allB B := by simp [allB]; omega
    cases x with
    | true =>
      simp only [if_true]; have ih := accountingref30_units.go a b c n d e B (A ++ [y]) true (i + 1) (by simp; omega) (by simpa using hs); rw [ha]
      simpa using ih
    | false =>
      simp only [Bool.false_eq_true, if_false]; have ih := accountingref30_units.go a b c n d e B (A ++ [y]) (decide (y > 0)) (i + 1) (by simp; omega) (by simpa using hs); rw [ha]
      simpa [posB] using ih
theorem accountingref30_units.eq (a b c n d e : Int) (l : List Int) (hs : l.length < 1000000000) : Ev (fun k => accountingref30_units.f k a b c n d e l) (usedv n l) := by
  unfold accountingref30_units.f usedv
  have := accountingref30_units.go a b c n d e l [] false 0 rfl hs
  simpa using this
theorem accountingref30_Check.eq {m c s n N D : Int} {l : List Int} (hN : inI N) (hD : inI D) (hs : l.length < 1000000000) : Ev (fun k => accountingref30_Check.f k m c s n N D l) (chkv m c s n N D l) := by
  have J2 : ∀ b, ¬ (m < 1 ∨ m > 4) → ¬ ((c < 1 ∨ c > 1000000000000 ∨ s < 0 ∨ s > c) ∨ n < 1 ∨ n > 200) → b = decide (m = 2 ∧ (rightv N D = false ∨ N ≤ 0 ∨ N ≥ D)) → Ev (fun k => accountingref30_Check.j2 k b m c s n N D l) (chkv m c s n N D l) := by
    intro b h1 h2 hb; subst hb; refine Ev.succ ?_
    unfold chkv
    rw [if_neg h1, if_neg h2]
    by_cases h3 : m = 2 ∧ (rightv N D = false ∨ N ≤ 0 ∨ N ≥ D)
    · simp only [accountingref30_Check.j2, decide_eq_true h3, if_true, if_pos h3]; exact Ev.const _
    · simp only [accountingref30_Check.j2, decide_eq_false h3, Bool.false_eq_true, if_false, if_neg h3]
      by_cases h4 : m = 4
      · simp only [if_pos h4]; refine Ev.bind (accountingref30_units.eq _ _ _ _ _ _ _ hs) ?_
        cases hu : usedv n l with
        | true => simp [h4]; exact Ev.const _
        | false => simp [h4]; exact Ev.const _
      · rw [if_neg (fun h => h4 h.1)]; simp only [if_neg h4]; exact Ev.const _
  have J1 : ∀ b, ¬ (m < 1 ∨ m > 4) → b = decide ((c < 1 ∨ c > 1000000000000 ∨ s < 0 ∨ s > c) ∨ n < 1 ∨ n > 200) → Ev (fun k => accountingref30_Check.j1 k b m c s n N D l N D) (chkv m c s n N D l) := by
    intro b h1 hb; subst hb; refine Ev.succ ?_
    by_cases h3 : (c < 1 ∨ c > 1000000000000 ∨ s < 0 ∨ s > c) ∨ n < 1 ∨ n > 200
    · have : chkv m c s n N D l = 3 := by unfold chkv; rw [if_neg h1, if_pos h3]
      rw [this]; simp only [accountingref30_Check.j1, decide_eq_true h3, if_true]; exact Ev.const _
    · simp only [accountingref30_Check.j1, decide_eq_false h3, Bool.false_eq_true, if_false]
      by_cases h4 : m = 2
      · simp only [if_pos h4]; refine Ev.bind (accountingref03_Right.eq hN hD) ?_
        cases hr : rightv N D with
        | false => simp only [Bool.false_eq_true, if_false]; exact J2 _ h1 h3 (by rw [hr]; simp [h4])
        | true =>
          simp only [if_true]
          by_cases h5 : N ≤ 0
          · simp only [if_pos h5]; exact J2 _ h1 h3 (by rw [hr]; simp [h4, h5])
          · simp only [if_neg h5]; exact J2 _ h1 h3 (by rw [hr]; simp [h4, h5])
      · simp only [if_neg h4]; exact J2 _ h1 h3 (by simp [h4])
  have J0 : ∀ b, b = decide (m < 1 ∨ m > 4) → Ev (fun k => accountingref30_Check.j0 k b m c s n N D l N D) (chkv m c s n N D l) := by
    intro b hb; subst hb; refine Ev.succ ?_
    by_cases h1 : m < 1 ∨ m > 4
    · have : chkv m c s n N D l = 10 := by unfold chkv; rw [if_pos h1]
      rw [this]; simp only [accountingref30_Check.j0, decide_eq_true h1, if_true]; exact Ev.const _
    · simp only [accountingref30_Check.j0, decide_eq_false h1, Bool.false_eq_true, if_false]
      by_cases h2 : c < 1
      · simp only [if_pos h2]; exact J1 _ h1 (by simp [h2])
      simp only [if_neg h2]
      by_cases h3 : c > 1000000000000
      · simp only [if_pos h3]; exact J1 _ h1 (by simp [h3])
      simp only [if_neg h3]
      by_cases h4 : s < 0
      · simp only [if_pos h4]; exact J1 _ h1 (by simp [h4])
      simp only [if_neg h4]
      by_cases h5 : s > c
      · simp only [if_pos h5]; exact J1 _ h1 (by simp [h5])
      simp only [if_neg h5]
      by_cases h6 : n < 1
      · simp only [if_pos h6]; exact J1 _ h1 (by simp [h6])
      · simp only [if_neg h6]; exact J1 _ h1 (by simp [h2, h3, h4, h5, h6])
  unfold accountingref30_Check.f
  by_cases h : m < 1
  · simp only [if_pos h]; exact J0 _ (by simp [h])
  · simp only [if_neg h]; exact J0 _ (by simp [h])
end Go.Proofs.Ytadognlkefhoiaa.M
end
section
namespace Go.Proofs.Ytadognlkefhoiaa.M
open Go.RowKit Go.Proofs.YtadognlkefhoiaaW.PrintWords Go.Proofs.YtadognlkefhoiaaW.PrintLast Go.Proofs.YtadognlkefhoiaaW.PrintMore
attribute [local go_sem] max2_int min2_int max_two min_two max_three min_three max_four min_four
set_option linter.unusedVariables false
set_option linter.unusedSimpArgs false
def accountingref02_wide.f (a0 : Int) (a1 : Int) : Option (Int × Int) := some (IntKind.u64.wrap ((IntKind.u64.wrap ((IntKind.u64.wrap ((IntKind.u64.wrap (Int.tdiv a0 4294967296)) * (IntKind.u64.wrap (Int.tdiv a1 4294967296)))) + (IntKind.u64.wrap (Int.tdiv (IntKind.u64.wrap ((IntKind.u64.wrap ((IntKind.u64.wrap (Int.tdiv a0 4294967296)) * (Int.tmod a1 4294967296))) + (IntKind.u64.wrap (Int.tdiv (IntKind.u64.wrap ((Int.tmod a0 4294967296) * (Int.tmod a1 4294967296))) 4294967296)))) 4294967296)))) + (IntKind.u64.wrap (Int.tdiv (IntKind.u64.wrap ((IntKind.u64.wrap ((Int.tmod a0 4294967296) * (IntKind.u64.wrap (Int.tdiv a1 4294967296)))) + (Int.tmod (IntKind.u64.wrap ((IntKind.u64.wrap ((IntKind.u64.wrap (Int.tdiv a0 4294967296)) * (Int.tmod a1 4294967296))) + (IntKind.u64.wrap (Int.tdiv (IntKind.u64.wrap ((Int.tmod a0 4294967296) * (Int.tmod a1 4294967296))) 4294967296)))) 4294967296))) 4294967296))), IntKind.u64.wrap ((IntKind.u64.wrap ((Int.tmod (IntKind.u64.wrap ((IntKind.u64.wrap ((Int.tmod a0 4294967296) * (IntKind.u64.wrap (Int.tdiv a1 4294967296)))) + (Int.tmod (IntKind.u64.wrap ((IntKind.u64.wrap ((IntKind.u64.wrap (Int.tdiv a0 4294967296)) * (Int.tmod a1 4294967296))) + (IntKind.u64.wrap (Int.tdiv (IntKind.u64.wrap ((Int.tmod a0 4294967296) * (Int.tmod a1 4294967296))) 4294967296)))) 4294967296))) 4294967296) * 4294967296)) + (Int.tmod (IntKind.u64.wrap ((Int.tmod a0 4294967296) * (Int.tmod a1 4294967296))) 4294967296)))
set_option maxHeartbeats 8000000 in
set_option maxRecDepth 100000 in
theorem accountingref02_wide.calls (a0 : Int) (a1 : Int) (r1 : Int) (r2 : Int) (w : World) (h : accountingref02_wide.f a0 a1 = some (r1, r2)) :
    Calls Try.prog 50 #[.int .u64 a0, .int .u64 a1] w fun e w' => e = .returned (.tuple #[.int .u64 r1, .int .u64 r2]) ∧ Drawn0 w w' := by
 have H : (some (IntKind.u64.wrap ((IntKind.u64.wrap ((IntKind.u64.wrap ((IntKind.u64.wrap (Int.tdiv a0 4294967296)) * (IntKind.u64.wrap (Int.tdiv a1 4294967296)))) + (IntKind.u64.wrap (Int.tdiv (IntKind.u64.wrap ((IntKind.u64.wrap ((IntKind.u64.wrap (Int.tdiv a0 4294967296)) * (Int.tmod a1 4294967296))) + (IntKind.u64.wrap (Int.tdiv (IntKind.u64.wrap ((Int.tmod a0 4294967296) * (Int.tmod a1 4294967296))) 4294967296)))) 4294967296)))) + (IntKind.u64.wrap (Int.tdiv (IntKind.u64.wrap ((IntKind.u64.wrap ((Int.tmod a0 4294967296) * (IntKind.u64.wrap (Int.tdiv a1 4294967296)))) + (Int.tmod (IntKind.u64.wrap ((IntKind.u64.wrap ((IntKind.u64.wrap (Int.tdiv a0 4294967296)) * (Int.tmod a1 4294967296))) + (IntKind.u64.wrap (Int.tdiv (IntKind.u64.wrap ((Int.tmod a0 4294967296) * (Int.tmod a1 4294967296))) 4294967296)))) 4294967296))) 4294967296))), IntKind.u64.wrap ((IntKind.u64.wrap ((Int.tmod (IntKind.u64.wrap ((IntKind.u64.wrap ((Int.tmod a0 4294967296) * (IntKind.u64.wrap (Int.tdiv a1 4294967296)))) + (Int.tmod (IntKind.u64.wrap ((IntKind.u64.wrap ((IntKind.u64.wrap (Int.tdiv a0 4294967296)) * (Int.tmod a1 4294967296))) + (IntKind.u64.wrap (Int.tdiv (IntKind.u64.wrap ((Int.tmod a0 4294967296) * (Int.tmod a1 4294967296))) 4294967296)))) 4294967296))) 4294967296) * 4294967296)) + (Int.tmod (IntKind.u64.wrap ((Int.tmod a0 4294967296) * (Int.tmod a1 4294967296))) 4294967296)))) = some (r1, r2) := h; clear h; simp only [Option.some.injEq, Prod.mk.injEq] at H; obtain ⟨rfl, rfl⟩ := H; go_enter Try.func50, Try.ntmps50
 go_wp2
 go_ret2
 exact ⟨pbb2_0, pbb2_1⟩
def accountingref02_mag.f (a0 : Int) : Option (Int) := if a0 < 0 then (some (IntKind.u64.wrap ((IntKind.u64.wrap (wrap64 (-(wrap64 (a0 + 1))))) + 1))) else (some (IntKind.u64.wrap (a0)))
set_option maxHeartbeats 8000000 in
set_option maxRecDepth 100000 in
theorem accountingref02_mag.calls (a0 : Int) (r : Int) (w : World) (h : accountingref02_mag.f a0 = some r) :
    Calls Try.prog 51 #[.int .i64 a0] w fun e w' => e = .returned (.int .u64 r) ∧ Drawn0 w w' := by
 have H : (if a0 < 0 then (some (IntKind.u64.wrap ((IntKind.u64.wrap (wrap64 (-(wrap64 (a0 + 1))))) + 1))) else (some (IntKind.u64.wrap (a0)))) = some r := h; clear h
 by_cases c2 : a0 < 0
 ·rw [if_pos c2] at H; have c2b0 : decide (a0 < 0) = true := decide_eq_true c2; clear c2; obtain rfl := Option.some.inj H; go_enter Try.func51, Try.ntmps51
  go_wp2
  go_ret
  exact ⟨pbb2_0, pbb2_1⟩
 ·rw [if_neg c2] at H; have c2b0 : decide (a0 < 0) = false := decide_eq_false c2; clear c2; obtain rfl := Option.some.inj H; go_enter Try.func51, Try.ntmps51
  go_wp2
  go_ret
  exact ⟨pbb2_0, pbb2_1⟩
def accountingref02_divide.l0 : Nat → Int → Int → Int → Int → Int → Int → Int → Option (Int × Int × Int)
  | 0, _, _, _, _, _, _, _ => none
  | k + 1, x0, x1, x2, x9, x10, x11, x12 => if x12 < 128 then (if x11 ≥ 9223372036854775808 then (accountingref02_divide.l0 k (IntKind.u64.wrap ((IntKind.u64.wrap (2 * x0)) + (IntKind.u64.wrap (Int.tdiv x1 9223372036854775808)))) (IntKind.u64.wrap (2 * x1)) x2 (IntKind.u64.wrap ((IntKind.u64.wrap (2 * x9)) + (IntKind.u64.wrap (Int.tdiv x10 9223372036854775808)))) (IntKind.u64.wrap ((IntKind.u64.wrap (2 * x10)) + 1)) (IntKind.u64.wrap ((IntKind.u64.wrap ((IntKind.u64.wrap (2 * x11)) + (IntKind.u64.wrap (Int.tdiv x0 9223372036854775808)))) - x2)) (wrap64 (x12 + 1))) else (if (IntKind.u64.wrap ((IntKind.u64.wrap (2 * x11)) + (IntKind.u64.wrap (Int.tdiv x0 9223372036854775808)))) ≥ x2 then (accountingref02_divide.l0 k (IntKind.u64.wrap ((IntKind.u64.wrap (2 * x0)) + (IntKind.u64.wrap (Int.tdiv x1 9223372036854775808)))) (IntKind.u64.wrap (2 * x1)) x2 (IntKind.u64.wrap ((IntKind.u64.wrap (2 * x9)) + (IntKind.u64.wrap (Int.tdiv x10 9223372036854775808)))) (IntKind.u64.wrap ((IntKind.u64.wrap (2 * x10)) + 1)) (IntKind.u64.wrap ((IntKind.u64.wrap ((IntKind.u64.wrap (2 * x11)) + (IntKind.u64.wrap (Int.tdiv x0 9223372036854775808)))) - x2)) (wrap64 (x12 + 1))) else (accountingref02_divide.l0 k (IntKind.u64.wrap ((IntKind.u64.wrap (2 * x0)) + (IntKind.u64.wrap (Int.tdiv x1 9223372036854775808)))) (IntKind.u64.wrap (2 * x1)) x2 (IntKind.u64.wrap ((IntKind.u64.wrap (2 * x9)) + (IntKind.u64.wrap (Int.tdiv x10 9223372036854775808)))) (IntKind.u64.wrap (2 * x10)) (IntKind.u64.wrap ((IntKind.u64.wrap (2 * x11)) + (IntKind.u64.wrap (Int.tdiv x0 9223372036854775808)))) (wrap64 (x12 + 1))))) else (some (x9, x10, x11))
def accountingref02_divide.f (k : Nat) (a0 : Int) (a1 : Int) (a2 : Int) : Option (Int × Int × Int) := accountingref02_divide.l0 k a0 a1 a2 0 0 0 0
set_option maxHeartbeats 8000000 in
set_option maxRecDepth 100000 in
theorem accountingref02_divide.calls (k : Nat) (a0 : Int) (a1 : Int) (a2 : Int) (r1 : Int) (r2 : Int) (r3 : Int) (w : World) (h : accountingref02_divide.f k a0 a1 a2 = some (r1, r2, r3)) :
    Calls Try.prog 52 #[.int .u64 a0, .int .u64 a1, .int .u64 a2] w fun e w' => e = .returned (.tuple #[.int .u64 r1, .int .u64 r2, .int .u64 r3]) ∧ Drawn0 w w' := by
 have H : (accountingref02_divide.l0 k a0 a1 a2 0 0 0 0) = some (r1, r2, r3) := h; clear h; have H' := Aside0.mk H; clear H; go_enter Try.func52, Try.ntmps52
 go_wp2
 go_loopg [0, 1, 9, 10, 11, 12] k (fun kq v0 v1 v9 v10 v11 v12 w' => ∃ (x0_1 : Int) (x1_1 : Int) (x9_1 : Int) (x10_1 : Int) (x11_1 : Int) (x12_1 : Int), v0 = .int .u64 x0_1 ∧ v1 = .int .u64 x1_1 ∧ v9 = .int .u64 x9_1 ∧ v10 = .int .u64 x10_1 ∧ v11 = .int .u64 x11_1 ∧ v12 = .int .i64 x12_1 ∧ Aside0 (accountingref02_divide.l0 kq x0_1 x1_1 a2 x9_1 x10_1 x11_1 x12_1 = some (r1, r2, r3)) ∧ Aside0 (kq ≤ k) ∧ Drawn0 w w')
 case atStart => exact ⟨(a0), (a1), (0), (0), (0), (0), pbb2_0, pbb2_0, pbb2_0, pbb2_0, pbb2_0, pbb2_0, H', ⟨Nat.le_refl _⟩, pbb2_1⟩
 case round =>
  clear H'; (try clear p2); obtain ⟨x0_1, x1_1, x9_1, x10_1, x11_1, x12_1, rfl, rfl, rfl, rfl, rfl, rfl, HA, HK1, ⟨m1, rfl⟩⟩ := hrel
  cases gk with
  | zero => exact absurd HA.out (by simp [accountingref02_divide.l0])
  | succ k1 =>
   have H := HA.out; clear HA; simp only [accountingref02_divide.l0] at H
   by_cases c4 : x12_1 < 128
   ·rw [if_pos c4] at H; have c4b0 : decide (x12_1 < 128) = true := decide_eq_true c4; clear c4
    by_cases c5 : x11_1 ≥ 9223372036854775808
    ·rw [if_pos c5] at H; have c5b0 : decide (9223372036854775808 ≤ x11_1) = true := decide_eq_true c5; clear c5; have H' := Aside0.mk H; clear H
     go_wp2
     go_roundg k1
     case measure => have := HK1.out; omega
     case rel => exact ⟨(IntKind.u64.wrap ((IntKind.u64.wrap (2 * x0_1)) + (IntKind.u64.wrap (Int.tdiv x1_1 9223372036854775808)))), (IntKind.u64.wrap (2 * x1_1)), (IntKind.u64.wrap ((IntKind.u64.wrap (2 * x9_1)) + (IntKind.u64.wrap (Int.tdiv x10_1 9223372036854775808)))), (IntKind.u64.wrap ((IntKind.u64.wrap (2 * x10_1)) + 1)), (IntKind.u64.wrap ((IntKind.u64.wrap ((IntKind.u64.wrap (2 * x11_1)) + (IntKind.u64.wrap (Int.tdiv x0_1 9223372036854775808)))) - a2)), (wrap64 (x12_1 + 1)), pbb2_0, pbb2_0, pbb2_0, pbb2_0, pbb2_0, pbb2_0, H', ⟨prr1_0⟩, pbb2_1⟩
    ·rw [if_neg c5] at H; have c5b0 : decide (9223372036854775808 ≤ x11_1) = false := decide_eq_false c5; clear c5
     by_cases c6 : (IntKind.u64.wrap ((IntKind.u64.wrap (2 * x11_1)) + (IntKind.u64.wrap (Int.tdiv x0_1 9223372036854775808)))) ≥ a2
     ·rw [if_pos c6] at H; have c6b0 : decide (a2 ≤ (IntKind.u64.wrap ((IntKind.u64.wrap (2 * x11_1)) + (IntKind.u64.wrap (Int.tdiv x0_1 9223372036854775808))))) = true := decide_eq_true c6; clear c6; have H' := Aside0.mk H; clear H
      go_wp2
      go_roundg k1
      case measure => have := HK1.out; omega
      case rel => exact ⟨(IntKind.u64.wrap ((IntKind.u64.wrap (2 * x0_1)) + (IntKind.u64.wrap (Int.tdiv x1_1 9223372036854775808)))), (IntKind.u64.wrap (2 * x1_1)), (IntKind.u64.wrap ((IntKind.u64.wrap (2 * x9_1)) + (IntKind.u64.wrap (Int.tdiv x10_1 9223372036854775808)))), (IntKind.u64.wrap ((IntKind.u64.wrap (2 * x10_1)) + 1)), (IntKind.u64.wrap ((IntKind.u64.wrap ((IntKind.u64.wrap (2 * x11_1)) + (IntKind.u64.wrap (Int.tdiv x0_1 9223372036854775808)))) - a2)), (wrap64 (x12_1 + 1)), pbb2_0, pbb2_0, pbb2_0, pbb2_0, pbb2_0, pbb2_0, H', ⟨prr1_0⟩, pbb2_1⟩
     ·rw [if_neg c6] at H; have c6b0 : decide (a2 ≤ (IntKind.u64.wrap ((IntKind.u64.wrap (2 * x11_1)) + (IntKind.u64.wrap (Int.tdiv x0_1 9223372036854775808))))) = false := decide_eq_false c6; clear c6; have H' := Aside0.mk H; clear H
      go_wp2
      go_roundg k1
      case measure => have := HK1.out; omega
      case rel => exact ⟨(IntKind.u64.wrap ((IntKind.u64.wrap (2 * x0_1)) + (IntKind.u64.wrap (Int.tdiv x1_1 9223372036854775808)))), (IntKind.u64.wrap (2 * x1_1)), (IntKind.u64.wrap ((IntKind.u64.wrap (2 * x9_1)) + (IntKind.u64.wrap (Int.tdiv x10_1 9223372036854775808)))), (IntKind.u64.wrap (2 * x10_1)), (IntKind.u64.wrap ((IntKind.u64.wrap (2 * x11_1)) + (IntKind.u64.wrap (Int.tdiv x0_1 9223372036854775808)))), (wrap64 (x12_1 + 1)), pbb2_0, pbb2_0, pbb2_0, pbb2_0, pbb2_0, pbb2_0, H', ⟨prr1_0⟩, pbb2_1⟩
   ·rw [if_neg c4] at H; have c4b0 : decide (x12_1 < 128) = false := decide_eq_false c4; clear c4; simp only [Option.some.injEq, Prod.mk.injEq] at H; obtain ⟨rfl, rfl, rfl⟩ := H
    go_wp2
    go_ret3
    exact ⟨pbb2_0, pbb2_1⟩
def accountingref02_away.f (a0 : Int) (a1 : Bool) (a2 : Bool) (a3 : Int) (a4 : Int) : Option (Bool) := if a0 = 2 then (some (decide (a3 > 0))) else (if a0 = 3 then (some (decide (a3 ≥ (IntKind.u64.wrap (a4 - a3))))) else (if a0 = 4 then (if a3 > (IntKind.u64.wrap (a4 - a3)) then (some true) else (if a3 = (IntKind.u64.wrap (a4 - a3)) then (some a2) else (some false))) else (if a0 = 5 then (if a1 = true then (some (decide (a3 > 0))) else (some false)) else (some false))))
set_option maxHeartbeats 8000000 in
set_option maxRecDepth 100000 in
theorem accountingref02_away.calls (a0 : Int) (a1 : Bool) (a2 : Bool) (a3 : Int) (a4 : Int) (r : Bool) (w : World) (h : accountingref02_away.f a0 a1 a2 a3 a4 = some r) :
    Calls Try.prog 53 #[.int .i64 a0, .bool a1, .bool a2, .int .u64 a3, .int .u64 a4] w fun e w' => e = .returned (.bool r) ∧ Drawn0 w w' := by
 have H : (if a0 = 2 then (some (decide (a3 > 0))) else (if a0 = 3 then (some (decide (a3 ≥ (IntKind.u64.wrap (a4 - a3))))) else (if a0 = 4 then (if a3 > (IntKind.u64.wrap (a4 - a3)) then (some true) else (if a3 = (IntKind.u64.wrap (a4 - a3)) then (some a2) else (some false))) else (if a0 = 5 then (if a1 = true then (some (decide (a3 > 0))) else (some false)) else (some false))))) = some r := h; clear h
 by_cases c6 : a0 = 2
 ·rw [if_pos c6] at H; have c6b0 : (a0 == 2) = true := beq_iff_eq.mpr c6; have c6b1 : (a0 != 2) = false := bne_eq_false_iff_eq.mpr c6; clear c6; obtain rfl := Option.some.inj H; go_enter Try.func53, Try.ntmps53
  go_wp2
  go_ret
  exact ⟨pbb2_0, pbb2_1⟩
 ·rw [if_neg c6] at H; have c6b0 : (a0 == 2) = false := beq_eq_false_iff_ne.mpr c6; have c6b1 : (a0 != 2) = true := bne_iff_ne.mpr c6
  by_cases c7 : a0 = 3
  ·rw [if_pos c7] at H; have c7b0 : (a0 == 3) = true := beq_iff_eq.mpr c7; have c7b1 : (a0 != 3) = false := bne_eq_false_iff_eq.mpr c7; clear c7; obtain rfl := Option.some.inj H; go_enter Try.func53, Try.ntmps53
   go_wp2
   go_ret
   exact ⟨pbb2_0, pbb2_1⟩
  ·rw [if_neg c7] at H; have c7b0 : (a0 == 3) = false := beq_eq_false_iff_ne.mpr c7; have c7b1 : (a0 != 3) = true := bne_iff_ne.mpr c7
   by_cases c8 : a0 = 4
   ·rw [if_pos c8] at H; have c8b0 : (a0 == 4) = true := beq_iff_eq.mpr c8; have c8b1 : (a0 != 4) = false := bne_eq_false_iff_eq.mpr c8; clear c8
    by_cases c9 : a3 > (IntKind.u64.wrap (a4 - a3))
    ·rw [if_pos c9] at H; have c9b0 : decide ((IntKind.u64.wrap (a4 - a3)) < a3) = true := decide_eq_true c9; clear c9; obtain rfl := Option.some.inj H; go_enter Try.func53, Try.ntmps53
     go_wp2
     go_ret
     exact ⟨pbb2_0, pbb2_1⟩
    ·rw [if_neg c9] at H; have c9b0 : decide ((IntKind.u64.wrap (a4 - a3)) < a3) = false := decide_eq_false c9; clear c9
     by_cases c10 : a3 = (IntKind.u64.wrap (a4 - a3))
     ·rw [if_pos c10] at H; have c10b0 : (a3 == (IntKind.u64.wrap (a4 - a3))) = true := beq_iff_eq.mpr c10; have c10b1 : (a3 != (IntKind.u64.wrap (a4 - a3))) = false := bne_eq_false_iff_eq.mpr c10; clear c10; obtain rfl := Option.some.inj H; go_enter Try.func53, Try.ntmps53
      go_wp2
      go_ret
      exact ⟨pbb2_0, pbb2_1⟩
     ·rw [if_neg c10] at H; have c10b0 : (a3 == (IntKind.u64.wrap (a4 - a3))) = false := beq_eq_false_iff_ne.mpr c10; have c10b1 : (a3 != (IntKind.u64.wrap (a4 - a3))) = true := bne_iff_ne.mpr c10; obtain rfl := Option.some.inj H; go_enter Try.func53, Try.ntmps53
      go_wp2
      go_ret
      exact ⟨pbb2_0, pbb2_1⟩
   ·rw [if_neg c8] at H; have c8b0 : (a0 == 4) = false := beq_eq_false_iff_ne.mpr c8; have c8b1 : (a0 != 4) = true := bne_iff_ne.mpr c8
    by_cases c11 : a0 = 5
    ·rw [if_pos c11] at H; have c11b0 : (a0 == 5) = true := beq_iff_eq.mpr c11; have c11b1 : (a0 != 5) = false := bne_eq_false_iff_eq.mpr c11; clear c11
     by_cases c12 : a1 = true
     ·subst c12; have H1 : (some (decide (a3 > 0))) = some r := by rw [if_pos rfl] at H; exact H
      clear H; have H := H1; clear H1; obtain rfl := Option.some.inj H; go_enter Try.func53, Try.ntmps53
      go_wp2
      go_ret
      exact ⟨pbb2_0, pbb2_1⟩
     ·replace c12 := Bool.eq_false_iff.mpr c12; subst c12; have H1 : (some false) = some r := by rw [if_neg (show ¬ (false = true) by decide)] at H; exact H
      clear H; have H := H1; clear H1; obtain rfl := Option.some.inj H; go_enter Try.func53, Try.ntmps53
      go_wp2
      go_ret
      exact ⟨pbb2_0, pbb2_1⟩
    ·rw [if_neg c11] at H; have c11b0 : (a0 == 5) = false := beq_eq_false_iff_ne.mpr c11; have c11b1 : (a0 != 5) = true := bne_iff_ne.mpr c11; obtain rfl := Option.some.inj H; go_enter Try.func53, Try.ntmps53
     go_wp2
     go_ret
     exact ⟨pbb2_0, pbb2_1⟩
mutual
def accountingref02_MulDiv.j0 : Nat → Int → Int → Int → Int → Bool → Option (Int × Int)
  | 0, _, _, _, _, _ => none
  | k + 1, x0, x1, x2, x3, x21 => if x21 = true then (some (0, 10)) else (if x2 = 0 then (some (0, 2)) else ((accountingref02_mag.f x0).bind fun t101 => ((accountingref02_mag.f x1).bind fun t102 => ((accountingref02_wide.f t101 t102).bind fun bt103 => ((accountingref02_mag.f x2).bind fun t105 => ((accountingref02_divide.f k bt103.1 bt103.2 t105).bind fun bt106 => (if bt106.1 > 0 then (accountingref02_MulDiv.j1 k x2 x3 bt106.2.1 bt106.2.2 (((decide (x0 < 0)) != (decide (x1 < 0))) != (decide (x2 < 0))) true) else (accountingref02_MulDiv.j1 k x2 x3 bt106.2.1 bt106.2.2 (((decide (x0 < 0)) != (decide (x1 < 0))) != (decide (x2 < 0))) (decide (bt106.2.1 > 9223372036854775808))))))))))
def accountingref02_MulDiv.j1 : Nat → Int → Int → Int → Int → Bool → Bool → Option (Int × Int)
  | 0, _, _, _, _, _, _ => none
  | k + 1, x2, x3, x13, x14, x15, x54 => if x54 = true then (some (0, 4)) else ((accountingref02_mag.f x2).bind fun t109 => ((accountingref02_away.f x3 x15 ((Int.tmod x13 2) == 1) x14 t109).bind fun t110 => (if t110 = true then (accountingref02_MulDiv.j2 k (IntKind.u64.wrap (x13 + 1)) x15) else (accountingref02_MulDiv.j2 k x13 x15))))
def accountingref02_MulDiv.j2 : Nat → Int → Bool → Option (Int × Int)
  | 0, _, _ => none
  | k + 1, x13, x15 => if x13 > 9223372036854775808 then (accountingref02_MulDiv.j3 k x13 x15 true) else (if x13 = 9223372036854775808 then (accountingref02_MulDiv.j3 k x13 x15 (!x15)) else (accountingref02_MulDiv.j3 k x13 x15 false))
def accountingref02_MulDiv.j3 : Nat → Int → Bool → Bool → Option (Int × Int)
  | 0, _, _, _ => none
  | k + 1, x13, x15, x75 => if x75 = true then (some (0, 4)) else (if x13 = 9223372036854775808 then (some ((-9223372036854775808), 0)) else (if x15 = true then (some (wrap64 (-(wrap64 (x13))), 0)) else (some (wrap64 (x13), 0))))
end
def accountingref02_MulDiv.f (k : Nat) (a0 : Int) (a1 : Int) (a2 : Int) (a3 : Int) : Option (Int × Int) := if a3 < 1 then (accountingref02_MulDiv.j0 k a0 a1 a2 a3 true) else (accountingref02_MulDiv.j0 k a0 a1 a2 a3 (decide (a3 > 5)))
set_option maxHeartbeats 8000000 in
set_option maxRecDepth 100000 in
theorem accountingref02_MulDiv.calls (k : Nat) (a0 : Int) (a1 : Int) (a2 : Int) (a3 : Int) (r1 : Int) (r2 : Int) (w : World) (h : accountingref02_MulDiv.f k a0 a1 a2 a3 = some (r1, r2)) :
    Calls Try.prog 39 #[.int .i64 a0, .int .i64 a1, .int .i64 a2, .int .i64 a3] w fun e w' => e = .returned (.tuple #[.int .i64 r1, .int .i64 r2]) ∧ Drawn0 w w' := by
 have H : (if a3 < 1 then (accountingref02_MulDiv.j0 k a0 a1 a2 a3 true) else (accountingref02_MulDiv.j0 k a0 a1 a2 a3 (decide (a3 > 5)))) = some (r1, r2) := h; clear h; have HC5 := Aside0.mk H; clear H; go_enter Try.func39, Try.ntmps39
 go_upto_region 1 with (fail)
 go_cut [21] (fun v21 wc => ∃ (kq : Nat) (x21_4 : Bool), v21 = .bool x21_4 ∧ Aside0 (accountingref02_MulDiv.j0 kq a0 a1 a2 a3 x21_4 = some (r1, r2)) ∧ Aside0 (kq ≤ k) ∧ Drawn0 w wc)
 case first =>
  have H := HC5.out; clear HC5
  by_cases c6 : a3 < 1
  ·rw [if_pos c6] at H; have c6b0 : decide (a3 < 1) = true := decide_eq_true c6; clear c6; (first | rw [c6b0] | (simp only [i64_w, i32_w]; rw [c6b0]) | skip); have H' := Aside0.mk H; clear H
   go_wp2
   go_meet
   case rel => exact ⟨_, (true), pbb2_0, H', ⟨by first | omega | exact Nat.le_refl _⟩, pbb2_1⟩
  ·rw [if_neg c6] at H; have c6b0 : decide (a3 < 1) = false := decide_eq_false c6; clear c6; (first | rw [c6b0] | (simp only [i64_w, i32_w]; rw [c6b0]) | skip); have H' := Aside0.mk H; clear H
   go_wp2
   go_meet
   case rel => exact ⟨_, (decide (a3 > 5)), pbb2_0, H', ⟨by first | omega | exact Nat.le_refl _⟩, pbb2_1⟩
 case rest =>
  clear HC5; (try clear p2); (try clear c3); (try clear c6); (try clear c6b0); obtain ⟨kq, x21_4, rfl, HA, HJ4, ⟨mc4, rfl⟩⟩ := hcut
  cases kq with
  | zero => exact absurd HA.out (by simp [accountingref02_MulDiv.j0])
  | succ kj4 =>
   have H := HA.out; clear HA; simp only [accountingref02_MulDiv.j0] at H
   by_cases c7 : x21_4 = true
   ·subst c7; have H1 : (some (0, 10)) = some (r1, r2) := by rw [if_pos rfl] at H; exact H
    clear H; have H := H1; clear H1; simp only [Option.some.injEq, Prod.mk.injEq] at H; obtain ⟨rfl, rfl⟩ := H
    go_wp2
    go_ret2
    exact ⟨pbb2_0, pbb2_1⟩
   ·replace c7 := Bool.eq_false_iff.mpr c7; subst c7; have H1 : (if a2 = 0 then (some (0, 2)) else ((accountingref02_mag.f a0).bind fun t101 => ((accountingref02_mag.f a1).bind fun t102 => ((accountingref02_wide.f t101 t102).bind fun bt103 => ((accountingref02_mag.f a2).bind fun t105 => ((accountingref02_divide.f kj4 bt103.1 bt103.2 t105).bind fun bt106 => (if bt106.1 > 0 then (accountingref02_MulDiv.j1 kj4 a2 a3 bt106.2.1 bt106.2.2 (((decide (a0 < 0)) != (decide (a1 < 0))) != (decide (a2 < 0))) true) else (accountingref02_MulDiv.j1 kj4 a2 a3 bt106.2.1 bt106.2.2 (((decide (a0 < 0)) != (decide (a1 < 0))) != (decide (a2 < 0))) (decide (bt106.2.1 > 9223372036854775808)))))))))) = some (r1, r2) := by rw [if_neg (show ¬ (false = true) by decide)] at H; exact H
    clear H; have H := H1; clear H1
    by_cases c8 : a2 = 0
    ·rw [if_pos c8] at H; have c8b0 : (a2 == 0) = true := beq_iff_eq.mpr c8; have c8b1 : (a2 != 0) = false := bne_eq_false_iff_eq.mpr c8; clear c8; simp only [Option.some.injEq, Prod.mk.injEq] at H; obtain ⟨rfl, rfl⟩ := H
     go_wp2
     go_ret2
     exact ⟨pbb2_0, pbb2_1⟩
    ·rw [if_neg c8] at H; have c8b0 : (a2 == 0) = false := beq_eq_false_iff_ne.mpr c8; have c8b1 : (a2 != 0) = true := bne_iff_ne.mpr c8; replace H := Option.bind_eq_some_iff.mp H; obtain ⟨t101, A90, H⟩ := H; replace H : ((accountingref02_mag.f a1).bind fun t102 => ((accountingref02_wide.f t101 t102).bind fun bt103 => ((accountingref02_mag.f a2).bind fun t105 => ((accountingref02_divide.f kj4 bt103.1 bt103.2 t105).bind fun bt106 => (if bt106.1 > 0 then (accountingref02_MulDiv.j1 kj4 a2 a3 bt106.2.1 bt106.2.2 (((decide (a0 < 0)) != (decide (a1 < 0))) != (decide (a2 < 0))) true) else (accountingref02_MulDiv.j1 kj4 a2 a3 bt106.2.1 bt106.2.2 (((decide (a0 < 0)) != (decide (a1 < 0))) != (decide (a2 < 0))) (decide (bt106.2.1 > 9223372036854775808)))))))) = some (r1, r2) := H; have A9 := Aside0.mk A90; clear A90; replace H := Option.bind_eq_some_iff.mp H; obtain ⟨t102, A100, H⟩ := H; replace H : ((accountingref02_wide.f t101 t102).bind fun bt103 => ((accountingref02_mag.f a2).bind fun t105 => ((accountingref02_divide.f kj4 bt103.1 bt103.2 t105).bind fun bt106 => (if bt106.1 > 0 then (accountingref02_MulDiv.j1 kj4 a2 a3 bt106.2.1 bt106.2.2 (((decide (a0 < 0)) != (decide (a1 < 0))) != (decide (a2 < 0))) true) else (accountingref02_MulDiv.j1 kj4 a2 a3 bt106.2.1 bt106.2.2 (((decide (a0 < 0)) != (decide (a1 < 0))) != (decide (a2 < 0))) (decide (bt106.2.1 > 9223372036854775808))))))) = some (r1, r2) := H; have A10 := Aside0.mk A100; clear A100; replace H := Option.bind_eq_some_iff.mp H; obtain ⟨⟨t103, t104⟩, A110, H⟩ := H; replace H : ((accountingref02_mag.f a2).bind fun t105 => ((accountingref02_divide.f kj4 t103 t104 t105).bind fun bt106 => (if bt106.1 > 0 then (accountingref02_MulDiv.j1 kj4 a2 a3 bt106.2.1 bt106.2.2 (((decide (a0 < 0)) != (decide (a1 < 0))) != (decide (a2 < 0))) true) else (accountingref02_MulDiv.j1 kj4 a2 a3 bt106.2.1 bt106.2.2 (((decide (a0 < 0)) != (decide (a1 < 0))) != (decide (a2 < 0))) (decide (bt106.2.1 > 9223372036854775808)))))) = some (r1, r2) := H; have A11 := Aside0.mk A110; clear A110; replace H := Option.bind_eq_some_iff.mp H; obtain ⟨t105, A120, H⟩ := H; replace H : ((accountingref02_divide.f kj4 t103 t104 t105).bind fun bt106 => (if bt106.1 > 0 then (accountingref02_MulDiv.j1 kj4 a2 a3 bt106.2.1 bt106.2.2 (((decide (a0 < 0)) != (decide (a1 < 0))) != (decide (a2 < 0))) true) else (accountingref02_MulDiv.j1 kj4 a2 a3 bt106.2.1 bt106.2.2 (((decide (a0 < 0)) != (decide (a1 < 0))) != (decide (a2 < 0))) (decide (bt106.2.1 > 9223372036854775808))))) = some (r1, r2) := H; have A12 := Aside0.mk A120; clear A120; replace H := Option.bind_eq_some_iff.mp H; obtain ⟨⟨t106, t107, t108⟩, A130, H⟩ := H; replace H : (if t106 > 0 then (accountingref02_MulDiv.j1 kj4 a2 a3 t107 t108 (((decide (a0 < 0)) != (decide (a1 < 0))) != (decide (a2 < 0))) true) else (accountingref02_MulDiv.j1 kj4 a2 a3 t107 t108 (((decide (a0 < 0)) != (decide (a1 < 0))) != (decide (a2 < 0))) (decide (t107 > 9223372036854775808)))) = some (r1, r2) := H; have A13 := Aside0.mk A130; clear A130; have HC14 := Aside0.mk H; clear H
     go_upto_region 8 with (first | ((with_reducible refine gate_callee (f := 51) rfl ?_); refine goesL_ (some 26) rfl rfl Try.func51 (by kernel_rfl) rfl #[.int .i64 a0] rfl pbb3_0 ?_; (with_reducible refine (accountingref02_mag.calls a0 t101 _ A9.out).mono ?_); rintro e w' ⟨rfl, ⟨nd, rfl⟩⟩; refine ⟨_, rfl, ?_⟩) | ((with_reducible refine gate_callee (f := 51) rfl ?_); refine goesL_ (some 28) rfl rfl Try.func51 (by kernel_rfl) rfl #[.int .i64 a1] rfl pbb3_0 ?_; (with_reducible refine (accountingref02_mag.calls a1 t102 _ A10.out).mono ?_); rintro e w' ⟨rfl, ⟨nd, rfl⟩⟩; refine ⟨_, rfl, ?_⟩) | ((with_reducible refine gate_callee (f := 50) rfl ?_); refine goesL_ (some 29) rfl rfl Try.func50 (by kernel_rfl) rfl #[.int .u64 t101, .int .u64 t102] rfl pbb3_0 ?_; (with_reducible refine (accountingref02_wide.calls t101 t102 t103 t104 _ A11.out).mono ?_); rintro e w' ⟨rfl, ⟨nd, rfl⟩⟩; refine ⟨_, rfl, ?_⟩) | ((with_reducible refine gate_callee (f := 51) rfl ?_); refine goesL_ (some 36) rfl rfl Try.func51 (by kernel_rfl) rfl #[.int .i64 a2] rfl pbb3_0 ?_; (with_reducible refine (accountingref02_mag.calls a2 t105 _ A12.out).mono ?_); rintro e w' ⟨rfl, ⟨nd, rfl⟩⟩; refine ⟨_, rfl, ?_⟩) | ((with_reducible refine gate_callee (f := 52) rfl ?_); refine goesL_ (some 37) rfl rfl Try.func52 (by kernel_rfl) rfl #[.int .u64 t103, .int .u64 t104, .int .u64 t105] rfl pbb3_0 ?_; (with_reducible refine (accountingref02_divide.calls kj4 t103 t104 t105 t106 t107 t108 _ A13.out).mono ?_); rintro e w' ⟨rfl, ⟨nd, rfl⟩⟩; refine ⟨_, rfl, ?_⟩))
     (try simp only [Act.put, List.setIfInBounds_toArray, List.set_cons_zero, List.set_cons_succ])
     go_cut [54] (fun v54 wc => ∃ (kq : Nat) (x54_13 : Bool), v54 = .bool x54_13 ∧ Aside0 (accountingref02_MulDiv.j1 kq a2 a3 t107 t108 (((decide (a0 < 0)) != (decide (a1 < 0))) != (decide (a2 < 0))) x54_13 = some (r1, r2)) ∧ Aside0 (kq ≤ kj4) ∧ Drawn0 w wc)
     case first =>
      have H := HC14.out; clear HC14
      by_cases c15 : t106 > 0
      ·rw [if_pos c15] at H; have c15b0 : decide (0 < t106) = true := decide_eq_true c15; clear c15; (first | rw [c15b0] | (simp only [i64_w, i32_w]; rw [c15b0]) | skip); have H' := Aside0.mk H; clear H
       go_wp2
       go_meet
       case rel => exact ⟨_, (true), pbb2_0, H', ⟨by have := HJ4.out; first | omega | exact Nat.le_refl _⟩, pbb2_1⟩
      ·rw [if_neg c15] at H; have c15b0 : decide (0 < t106) = false := decide_eq_false c15; clear c15; (first | rw [c15b0] | (simp only [i64_w, i32_w]; rw [c15b0]) | skip); have H' := Aside0.mk H; clear H
       go_wp2
       go_meet
       case rel => exact ⟨_, (decide (t107 > 9223372036854775808)), pbb2_0, H', ⟨by have := HJ4.out; first | omega | exact Nat.le_refl _⟩, pbb2_1⟩
     case rest =>
      clear HC14; (try clear c1); (try clear p2); (try clear c3); (try clear c4); (try clear c5); (try clear c6); (try clear c6b0); (try clear c7); (try clear c8); (try clear c8b0); (try clear c8b1); (try clear c15); (try clear c15b0); (try clear p2); obtain ⟨kq, x54_13, rfl, HA, HJ13, ⟨mc13, rfl⟩⟩ := hcut
      cases kq with
      | zero => exact absurd HA.out (by simp [accountingref02_MulDiv.j1])
      | succ kj13 =>
       have H := HA.out; clear HA; simp only [accountingref02_MulDiv.j1] at H
       by_cases c16 : x54_13 = true
       ·subst c16; have H1 : (some (0, 4)) = some (r1, r2) := by rw [if_pos rfl] at H; exact H
        clear H; have H := H1; clear H1; simp only [Option.some.injEq, Prod.mk.injEq] at H; obtain ⟨rfl, rfl⟩ := H
        go_wp2
        go_ret2
        exact ⟨pbb2_0, pbb2_1⟩
       ·replace c16 := Bool.eq_false_iff.mpr c16; subst c16; have H1 : ((accountingref02_mag.f a2).bind fun t109 => ((accountingref02_away.f a3 (((decide (a0 < 0)) != (decide (a1 < 0))) != (decide (a2 < 0))) ((Int.tmod t107 2) == 1) t108 t109).bind fun t110 => (if t110 = true then (accountingref02_MulDiv.j2 kj13 (IntKind.u64.wrap (t107 + 1)) (((decide (a0 < 0)) != (decide (a1 < 0))) != (decide (a2 < 0)))) else (accountingref02_MulDiv.j2 kj13 t107 (((decide (a0 < 0)) != (decide (a1 < 0))) != (decide (a2 < 0))))))) = some (r1, r2) := by rw [if_neg (show ¬ (false = true) by decide)] at H; exact H
        clear H; have H := H1; clear H1; replace H := Option.bind_eq_some_iff.mp H; obtain ⟨t109, A170, H⟩ := H; replace H : ((accountingref02_away.f a3 (((decide (a0 < 0)) != (decide (a1 < 0))) != (decide (a2 < 0))) ((Int.tmod t107 2) == 1) t108 t109).bind fun t110 => (if t110 = true then (accountingref02_MulDiv.j2 kj13 (IntKind.u64.wrap (t107 + 1)) (((decide (a0 < 0)) != (decide (a1 < 0))) != (decide (a2 < 0)))) else (accountingref02_MulDiv.j2 kj13 t107 (((decide (a0 < 0)) != (decide (a1 < 0))) != (decide (a2 < 0)))))) = some (r1, r2) := H; have A17 := Aside0.mk A170; clear A170; replace H := Option.bind_eq_some_iff.mp H; obtain ⟨t110, A180, H⟩ := H; replace H : (if t110 = true then (accountingref02_MulDiv.j2 kj13 (IntKind.u64.wrap (t107 + 1)) (((decide (a0 < 0)) != (decide (a1 < 0))) != (decide (a2 < 0)))) else (accountingref02_MulDiv.j2 kj13 t107 (((decide (a0 < 0)) != (decide (a1 < 0))) != (decide (a2 < 0))))) = some (r1, r2) := H; have A18 := Aside0.mk A180; clear A180; have HC19 := Aside0.mk H; clear H
        go_upto_if 63 with (first | ((with_reducible refine gate_callee (f := 51) rfl ?_); refine goesL_ (some 62) rfl rfl Try.func51 (by kernel_rfl) rfl #[.int .i64 a2] rfl pbb3_0 ?_; (with_reducible refine (accountingref02_mag.calls a2 t109 _ A17.out).mono ?_); rintro e w' ⟨rfl, ⟨nd, rfl⟩⟩; refine ⟨_, rfl, ?_⟩) | ((with_reducible refine gate_callee (f := 53) rfl ?_); refine goesL_ (some 63) rfl rfl Try.func53 (by kernel_rfl) rfl #[.int .i64 a3, .bool (((decide (a0 < 0)) != (decide (a1 < 0))) != (decide (a2 < 0))), .bool ((Int.tmod t107 2) == 1), .int .u64 t108, .int .u64 t109] rfl pbb3_0 ?_; (with_reducible refine (accountingref02_away.calls a3 (((decide (a0 < 0)) != (decide (a1 < 0))) != (decide (a2 < 0))) ((Int.tmod t107 2) == 1) t108 t109 t110 _ A18.out).mono ?_); rintro e w' ⟨rfl, ⟨nd, rfl⟩⟩; refine ⟨_, rfl, ?_⟩))
        (try simp only [Act.put, List.setIfInBounds_toArray, List.set_cons_zero, List.set_cons_succ])
        go_cut [13] (fun v13 wc => ∃ (kq : Nat) (x13_18 : Int), v13 = .int .u64 x13_18 ∧ Aside0 (accountingref02_MulDiv.j2 kq x13_18 (((decide (a0 < 0)) != (decide (a1 < 0))) != (decide (a2 < 0))) = some (r1, r2)) ∧ Aside0 (kq ≤ kj13) ∧ Drawn0 w wc)
        case first =>
         have H := HC19.out; clear HC19
         by_cases c20 : t110 = true
         ·subst c20; have H1 : (accountingref02_MulDiv.j2 kj13 (IntKind.u64.wrap (t107 + 1)) (((decide (a0 < 0)) != (decide (a1 < 0))) != (decide (a2 < 0)))) = some (r1, r2) := by rw [if_pos rfl] at H; exact H
          clear H; have H := H1; clear H1; have H' := Aside0.mk H; clear H
          go_wp2
          go_meet
          case rel => exact ⟨_, (IntKind.u64.wrap (t107 + 1)), pbb2_0, H', ⟨by have := HJ4.out; have := HJ13.out; first | omega | exact Nat.le_refl _⟩, pbb2_1⟩
         ·replace c20 := Bool.eq_false_iff.mpr c20; subst c20; have H1 : (accountingref02_MulDiv.j2 kj13 t107 (((decide (a0 < 0)) != (decide (a1 < 0))) != (decide (a2 < 0)))) = some (r1, r2) := by rw [if_neg (show ¬ (false = true) by decide)] at H; exact H
          clear H; have H := H1; clear H1; have H' := Aside0.mk H; clear H
          go_wp2
          go_meet
          case rel => exact ⟨_, (t107), pbb2_0, H', ⟨by have := HJ4.out; have := HJ13.out; first | omega | exact Nat.le_refl _⟩, pbb2_1⟩
        case rest =>
         clear HC19; (try clear c1); (try clear c2); (try clear p2); (try clear c3); (try clear c4); (try clear c5); (try clear c6); (try clear c6b0); (try clear c7); (try clear c8); (try clear c8b0); (try clear c8b1); (try clear c13); (try clear c15); (try clear c15b0); (try clear c16); (try clear c20); (try clear p2); obtain ⟨kq, x13_18, rfl, HA, HJ18, ⟨mc18, rfl⟩⟩ := hcut
         cases kq with
         | zero => exact absurd HA.out (by simp [accountingref02_MulDiv.j2])
         | succ kj18 =>
          have H := HA.out; clear HA; simp only [accountingref02_MulDiv.j2] at H; have HC21 := Aside0.mk H; clear H
          go_upto_region 12 with (fail)
          go_cut [75] (fun v75 wc => ∃ (kq : Nat) (x75_20 : Bool), v75 = .bool x75_20 ∧ Aside0 (accountingref02_MulDiv.j3 kq x13_18 (((decide (a0 < 0)) != (decide (a1 < 0))) != (decide (a2 < 0))) x75_20 = some (r1, r2)) ∧ Aside0 (kq ≤ kj18) ∧ Drawn0 w wc)
          case first =>
           have H := HC21.out; clear HC21
           by_cases c22 : x13_18 > 9223372036854775808
           ·rw [if_pos c22] at H; have c22b0 : decide (9223372036854775808 < x13_18) = true := decide_eq_true c22; clear c22; (first | rw [c22b0] | (simp only [i64_w, i32_w]; rw [c22b0]) | skip); have H' := Aside0.mk H; clear H
            go_wp2
            go_meet
            case rel => exact ⟨_, (true), pbb2_0, H', ⟨prr1_4⟩, pbb2_1⟩
           ·rw [if_neg c22] at H; have c22b0 : decide (9223372036854775808 < x13_18) = false := decide_eq_false c22; clear c22; (first | rw [c22b0] | (simp only [i64_w, i32_w]; rw [c22b0]) | skip)
            by_cases c23 : x13_18 = 9223372036854775808
            ·rw [if_pos c23] at H; have c23b0 : (x13_18 == 9223372036854775808) = true := beq_iff_eq.mpr c23; have c23b1 : (x13_18 != 9223372036854775808) = false := bne_eq_false_iff_eq.mpr c23; clear c23; have H' := Aside0.mk H; clear H
             go_wp2
             go_meet
             case rel => exact ⟨_, (!(((decide (a0 < 0)) != (decide (a1 < 0))) != (decide (a2 < 0)))), (by first | rfl | (simp; done) | (simp [*]; done) | (congr 1; generalize decide (a0 < 0) = q0_; generalize decide (a1 < 0) = q1_; generalize decide (a2 < 0) = q2_; revert q0_ q1_ q2_; decide)), H', ⟨prr1_4⟩, pbb2_1⟩
            ·rw [if_neg c23] at H; have c23b0 : (x13_18 == 9223372036854775808) = false := beq_eq_false_iff_ne.mpr c23; have c23b1 : (x13_18 != 9223372036854775808) = true := bne_iff_ne.mpr c23; have H' := Aside0.mk H; clear H
             go_wp2
             go_meet
             case rel => exact ⟨_, (false), pbb2_0, H', ⟨prr1_4⟩, pbb2_1⟩
          case rest =>
           clear HC21; (try clear c1); (try clear c2); (try clear p2); (try clear c3); (try clear c4); (try clear c5); (try clear c6); (try clear c6b0); (try clear c7); (try clear c8); (try clear c8b0); (try clear c8b1); (try clear c13); (try clear c15); (try clear c15b0); (try clear c16); (try clear c18); (try clear c20); (try clear c22); (try clear c22b0); (try clear c23); (try clear c23b0); (try clear c23b1); (try clear p2); obtain ⟨kq, x75_20, rfl, HA, HJ20, ⟨mc20, rfl⟩⟩ := hcut
           cases kq with
           | zero => exact absurd HA.out (by simp [accountingref02_MulDiv.j3])
           | succ kj20 =>
            have H := HA.out; clear HA; simp only [accountingref02_MulDiv.j3] at H
            by_cases c24 : x75_20 = true
            ·subst c24; have H1 : (some (0, 4)) = some (r1, r2) := by rw [if_pos rfl] at H; exact H
             clear H; have H := H1; clear H1; simp only [Option.some.injEq, Prod.mk.injEq] at H; obtain ⟨rfl, rfl⟩ := H
             go_wp2
             go_ret2
             exact ⟨pbb2_0, pbb2_1⟩
            ·replace c24 := Bool.eq_false_iff.mpr c24; subst c24; have H1 : (if x13_18 = 9223372036854775808 then (some ((-9223372036854775808), 0)) else (if (((decide (a0 < 0)) != (decide (a1 < 0))) != (decide (a2 < 0))) = true then (some (wrap64 (-(wrap64 (x13_18))), 0)) else (some (wrap64 (x13_18), 0)))) = some (r1, r2) := by rw [if_neg (show ¬ (false = true) by decide)] at H; exact H
             clear H; have H := H1; clear H1
             by_cases c25 : x13_18 = 9223372036854775808
             ·rw [if_pos c25] at H; have c25b0 : (x13_18 == 9223372036854775808) = true := beq_iff_eq.mpr c25; have c25b1 : (x13_18 != 9223372036854775808) = false := bne_eq_false_iff_eq.mpr c25; clear c25; simp only [Option.some.injEq, Prod.mk.injEq] at H; obtain ⟨rfl, rfl⟩ := H
              go_wp2
              go_ret2
              exact ⟨pbb2_0, pbb2_1⟩
             ·rw [if_neg c25] at H; have c25b0 : (x13_18 == 9223372036854775808) = false := beq_eq_false_iff_ne.mpr c25; have c25b1 : (x13_18 != 9223372036854775808) = true := bne_iff_ne.mpr c25
              by_cases c26 : (((decide (a0 < 0)) != (decide (a1 < 0))) != (decide (a2 < 0))) = true
              ·rw [if_pos c26] at H; have c26b0 : (((decide (a0 < 0)) != (decide (a1 < 0))) != (decide (a2 < 0))) = true := c26; have c26n0 : (!(!decide (a0 < 0) == decide (a1 < 0)) == decide (a2 < 0)) = true := by (have z_ := c26b0; revert z_; generalize decide (a0 < 0) = q0_; generalize decide (a1 < 0) = q1_; generalize decide (a2 < 0) = q2_; revert q0_ q1_ q2_; decide)
               (try (have c26b1 : decide (((decide (a0 < 0)) != (decide (a1 < 0))) = (decide (a2 < 0))) = false := by simpa using c26)); (try (have c26b2 : (((decide (a0 < 0)) != (decide (a1 < 0))) == (decide (a2 < 0))) = false := by simpa using c26)); (try (have c26b3 : ¬ (((decide (a0 < 0)) != (decide (a1 < 0))) = (decide (a2 < 0))) := by simpa using c26)); clear c26; simp only [Option.some.injEq, Prod.mk.injEq] at H; obtain ⟨rfl, rfl⟩ := H
               go_wp2
               all_goals (try exact Bool.noConfusion (c26n0.symm.trans (by assumption : (!(!decide (a0 < 0) == decide (a1 < 0)) == decide (a2 < 0)) = false)))
               go_ret2
               exact ⟨pbb2_0, pbb2_1⟩
              ·rw [if_neg c26] at H; have c26b0 : (((decide (a0 < 0)) != (decide (a1 < 0))) != (decide (a2 < 0))) = false := by simpa using c26
               have c26n0 : (!(!decide (a0 < 0) == decide (a1 < 0)) == decide (a2 < 0)) = false := by (have z_ := c26b0; revert z_; generalize decide (a0 < 0) = q0_; generalize decide (a1 < 0) = q1_; generalize decide (a2 < 0) = q2_; revert q0_ q1_ q2_; decide)
               (try (have c26b1 : decide (((decide (a0 < 0)) != (decide (a1 < 0))) = (decide (a2 < 0))) = true := by simpa using c26)); (try (have c26b2 : (((decide (a0 < 0)) != (decide (a1 < 0))) == (decide (a2 < 0))) = true := by simpa using c26)); clear c26; simp only [Option.some.injEq, Prod.mk.injEq] at H; obtain ⟨rfl, rfl⟩ := H
               go_wp2
               all_goals (try exact Bool.noConfusion (c26n0.symm.trans (by assumption : (!(!decide (a0 < 0) == decide (a1 < 0)) == decide (a2 < 0)) = true)))
               go_ret2
               exact ⟨pbb2_0, pbb2_1⟩
end Go.Proofs.Ytadognlkefhoiaa.M
end
