/- The texts of a claim of chapter 25. Part 1 of 2 of what is the claim's own. -/
import Derived.Test.YtgjpegmhlnabpaaQB1
import Derived.Test.YtgjpegmhlnabpaaQCC2
import Derived.Test.YtgjpegmhlnabpaaQRR1
import Derived.Test.YtgjpegmhlnabpaaQB6
import Derived.Test.YtgjpegmhlnabpaaQCC1
namespace Go.Proofs.Ytgjpegmhlnabpaa.M
theorem pof1_0 {p : Prop} (h : p := by rw [hg]; exact (below_size (by repeat (first | (with_reducible first | exact HB.out | apply below_alloc | apply pw_below_drewN | apply below_drew1 | refine below_set ?_ GE101.out) | exact HB.out)))) : p := h
theorem pof1_1 {p : Prop} (h : p := by repeat (first | (with_reducible first | exact HB.out | apply below_alloc | apply pw_below_drewN | apply below_drew1 | refine below_set ?_ GE101.out | refine below_set ?_ GE102.out) | exact HB.out)) : p := h
theorem pof1_2 {p : Prop} (h : p := by first | exact Kd.R_nil _ _ _ _ _ | exact Kd.N_nil _ _ _ _ _ | exact Kd.V_nil _ _ _ _ _ | exact Kd.Q_nil _ _ _ _ _ | exact Kd.S_nil _ _ _ _ _) : p := h
theorem pof1_3 {p : Prop} (h : p := by (with_reducible repeat (first | apply Kd.R_alloc | apply Kd.R_drewN | apply Kd.R_drew)); exact HO_12.out) : p := h
theorem pof1_4 {p : Prop} (h : p := by (with_reducible repeat (first | apply Kd.R_alloc | apply Kd.R_drewN | apply Kd.R_drew)); exact HO_14.out) : p := h
theorem pof1_5 {p : Prop} (h : p := by repeat (first | (with_reducible first | exact HB.out | apply below_alloc | apply pw_below_drewN | apply below_drew1 | refine below_set ?_ GE107.out) | exact HB.out)) : p := h
theorem pof1_6 {p : Prop} (h : p := by (with_reducible repeat (first | refine blk_drewN ?_ _ | refine blk_drew ?_ | refine blk_alloc ?_ _)); exact BK107.out) : p := h
theorem pof1_7 {p : Prop} (h : p := by have := HK1.out; have := HK2.out; have := HK3.out; omega) : p := h
theorem pof1_8 {p : Prop} (h : p := by (with_reducible repeat (first | apply Kd.R_alloc | apply Kd.R_drewN | apply Kd.R_drew)); exact HO106.out) : p := h
theorem pof1_9 {p : Prop} (h : p := by (with_reducible repeat (first | apply Kd.R_alloc | apply Kd.R_drewN | apply Kd.R_drew)); exact HO108.out) : p := h
def aof1_0 : Array Bool := #[false, false, false, false, false, false, false, false, false, false, false, false, false, false]
def aof1_1 : Array Bool := #[true, false, false, false, false, false, false, false, false, false, false, false, false, false]
def aof1_2 : Array Bool := #[true, false, true, false, false, false, false, false, false, false, false, false, false, false]
def aof1_3 : Array Bool := #[true, false, true, true, false, false, false, false, false, false, false, false, false, false]
def aof1_4 : Array Bool := #[true, false, true, true, true, false, false, false, false, false, false, false, false, false]
def aof1_5 : Array Bool := #[true, false, true, true, true, true, false, false, false, false, false, false, false, false]
def aof1_6 : Array Bool := #[true, false, true, true, true, true, false, true, false, false, false, false, false, false]
def aof1_7 : Array Bool := #[true, true, true, true, true, true, false, true, false, false, false, false, false, false]
def aof1_8 : Array Bool := #[true, true, true, true, true, true, true, true, false, false, false, false, false, false]
def aof1_9 : Array Bool := #[true, true, true, true, true, true, true, true, true, false, false, false, false, false]
def aof1_10 : Array Bool := #[true, true, true, true, true, true, true, true, true, true, false, false, false, false]
def aof1_11 : Array Bool := #[true, true, true, true, true, true, true, true, true, true, true, false, false, false]
def aof1_12 : Array Bool := #[true, true, true, true, true, true, true, true, true, true, true, true, false, false]
def aof1_13 : Array Bool := #[true, true, true, true, true, true, true, true, true, true, true, true, true, false]
def aof1_14 : Array Bool := #[true, true, true, true, true, true, true, true, true, true, true, true, true, true]
def aof1_15 : Array Bool := #[false, false, false, false, false, false, false, false, false, false, false]
def aof1_16 : Array Bool := #[true, false, false, false, false, false, false, false, false, false, false]
def aof1_17 : Array Bool := #[true, true, false, false, false, false, false, false, false, false, false]
def aof1_18 : Array Bool := #[true, true, true, false, false, false, false, false, false, false, false]
def aof1_19 : Array Bool := #[true, true, true, true, false, false, false, false, false, false, false]
def aof1_20 : Array Bool := #[true, true, true, true, false, true, false, false, false, false, false]
def aof1_21 : Array Bool := #[true, true, true, true, false, true, true, false, false, false, false]
def aof1_22 : Array Bool := #[true, true, true, true, false, true, true, true, false, false, false]
def aof1_23 : Array Bool := #[true, true, true, true, false, true, true, true, true, false, false]
def aof1_24 : Array Bool := #[true, true, true, true, true, true, true, true, true, false, false]
def aof1_25 : Array Bool := #[true, true, true, true, true, true, true, true, true, true, false]
def aof1_26 : Array Bool := #[true, true, true, true, true, true, true, true, true, true, true]
end Go.Proofs.Ytgjpegmhlnabpaa.M
section
namespace Go.Proofs.Ytgjpegmhlnabpaa.M
open Go.RowKit Go.Proofs.YtgjpegmhlnabpaaW.PrintWords Go.Proofs.YtgjpegmhlnabpaaW.PrintLast Go.Proofs.YtgjpegmhlnabpaaW.PrintMore
attribute [local go_sem] max2_int min2_int max_two min_two max_three min_three max_four min_four
set_option linter.unusedVariables false
set_option linter.unusedSimpArgs false
def accountinglaw25_large.f (l0 : List (S49)) (l1 : List (S59)) : Option (Bool) := if (l0.length : Int) > 250 then (some true) else (if (l1.length : Int) > 250 then (some true) else (some (decide ((wrap64 ((l0.length : Int) * (l1.length : Int))) > 5000))))
set_option maxHeartbeats 8000000 in
set_option maxRecDepth 100000 in
theorem accountinglaw25_large.calls (A0 : Option Addr) (c0 : Nat) (l0 : List (S49)) (A1 : Option Addr) (c1 : Nat) (l1 : List (S59)) (r : Bool) (w : World) (hr0 : Kd.C k49 w A0 l0.length l0) (hc0 : l0.length ≤ c0) (hr1 : Kd.C k59 w A1 l1.length l1) (hc1 : l1.length ≤ c1) (h : accountinglaw25_large.f l0 l1 = some r) :
    Calls Try.prog 17 #[.slice A0 l0.length c0, .slice A1 l1.length c1] w fun e w' => e = .returned (.bool r) ∧ Drawn0 w w' := by
 have HR0 := Aside0.mk hr0; have HC0 := Aside0.mk hc0; clear hr0 hc0; have HR1 := Aside0.mk hr1; have HC1 := Aside0.mk hc1; clear hr1 hc1; have H : (if (l0.length : Int) > 250 then (some true) else (if (l1.length : Int) > 250 then (some true) else (some (decide ((wrap64 ((l0.length : Int) * (l1.length : Int))) > 5000))))) = some r := h; clear h
 by_cases c3 : (l0.length : Int) > 250
 ·rw [if_pos c3] at H; have c3b0 : decide (250 < (l0.length : Int)) = true := decide_eq_true c3; have c3b1 : decide (250 < l0.length) = true := decide_eq_true (by omega); clear c3; obtain rfl := Option.some.inj H; go_enter Try.func17, Try.ntmps17
  go_wp2
  go_ret
  exact ⟨prr1_0, prr1_1⟩
 ·rw [if_neg c3] at H; have c3b0 : decide (250 < (l0.length : Int)) = false := decide_eq_false c3; have c3b1 : decide (250 < l0.length) = false := decide_eq_false (by omega); clear c3
  by_cases c4 : (l1.length : Int) > 250
  ·rw [if_pos c4] at H; have c4b0 : decide (250 < (l1.length : Int)) = true := decide_eq_true c4; have c4b1 : decide (250 < l1.length) = true := decide_eq_true (by omega); clear c4; obtain rfl := Option.some.inj H; go_enter Try.func17, Try.ntmps17
   go_wp2
   go_ret
   exact ⟨prr1_0, prr1_1⟩
  ·rw [if_neg c4] at H; have c4b0 : decide (250 < (l1.length : Int)) = false := decide_eq_false c4; have c4b1 : decide (250 < l1.length) = false := decide_eq_false (by omega); clear c4; obtain rfl := Option.some.inj H; go_enter Try.func17, Try.ntmps17
   go_wp2
   go_ret
   exact ⟨prr1_0, prr1_1⟩
def accountingref25_find.l0 : Nat → List (S59) → ByteArray → Int → Option (Int)
  | 0, _, _, _ => none
  | k + 1, x0, x1, x5 => if x5 < (x0.length : Int) then (if 0 ≤ x5 then (if ((rd_T59 x0 x5).f0).toList = x1.toList then (some x5) else (accountingref25_find.l0 k x0 x1 (wrap64 (x5 + 1)))) else (none)) else (some (-1))
def accountingref25_find.f (k : Nat) (l0 : List (S59)) (a1 : ByteArray) : Option (Int) := accountingref25_find.l0 k l0 a1 0
theorem accountingref25_find.mono_l : ∀ k, (∀ y0 y1 y2, LeO (accountingref25_find.l0 k y0 y1 y2) (accountingref25_find.l0 (k + 1) y0 y1 y2))
  | 0 => fun _ _ _ r h => by simp [accountingref25_find.l0] at h
  | k + 1 => by
    have ih0 := accountingref25_find.mono_l k
    · intro y0 y1 y2
      unfold accountingref25_find.l0
      repeat' first
      | (with_reducible exact ih0 _ _ _)
      | (with_reducible exact LeO.refl _)
      | (with_reducible exact LeO.none _)
      | (with_reducible refine LeO.ite ?_ ?_)
      | (with_reducible refine LeO.bind ?_ (fun _ => ?_))
      | exact ih0 _ _ _
      | exact LeO.none _
      | refine LeO.ite ?_ ?_
      | refine LeO.bind ?_ (fun _ => ?_)
theorem accountingref25_find.mono : ∀ a0 a1 k, LeO (accountingref25_find.f k a0 a1) (accountingref25_find.f (k + 1) a0 a1) := by
 intro a0 a1 k; have ih0 := accountingref25_find.mono_l k
 unfold accountingref25_find.f
 repeat' first
   | (with_reducible exact ih0 _ _ _)
   | (with_reducible exact LeO.refl _)
   | (with_reducible exact LeO.none _)
   | (with_reducible refine LeO.ite ?_ ?_)
   | (with_reducible refine LeO.bind ?_ (fun _ => ?_))
   | exact ih0 _ _ _
   | exact LeO.none _
   | refine LeO.ite ?_ ?_
   | refine LeO.bind ?_ (fun _ => ?_)
set_option maxHeartbeats 8000000 in
set_option maxRecDepth 100000 in
theorem accountingref25_find.calls (k : Nat) (A0 : Option Addr) (c0 : Nat) (l0 : List (S59)) (a1 : ByteArray) (r : Int) (w : World) (hr0 : Kd.C k59 w A0 l0.length l0) (hc0 : l0.length ≤ c0) (h : accountingref25_find.f k l0 a1 = some r) :
    Calls Try.prog 63 #[.slice A0 l0.length c0, .string a1] w fun e w' => e = .returned (.int .i64 r) ∧ Drawn0 w w' := by
 have hu9 := Try.underlying9; have HR0 := Aside0.mk hr0; have HC0 := Aside0.mk hc0; clear hr0 hc0; have H : (accountingref25_find.l0 k l0 a1 0) = some r := h; clear h; have H' := Aside0.mk H; clear H; go_enter Try.func63, Try.ntmps63
 go_wp2
 go_loopg [5] k (fun kq v5 w' => ∃ (x5_1 : Int), v5 = .int .i64 x5_1 ∧ Aside0 (accountingref25_find.l0 kq l0 a1 x5_1 = some r) ∧ Aside0 (kq ≤ k) ∧ Drawn0 w w')
 case atStart => exact ⟨(0), prr1_0, H', ⟨Nat.le_refl _⟩, prr1_1⟩
 case round =>
  clear H'; (try clear p2); obtain ⟨x5_1, rfl, HA, HK1, ⟨m1, rfl⟩⟩ := hrel
  cases gk with
  | zero => exact absurd HA.out (by simp [accountingref25_find.l0])
  | succ k1 =>
   have H := HA.out; clear HA; simp only [accountingref25_find.l0] at H
   by_cases c3 : x5_1 < (l0.length : Int)
   ·rw [if_pos c3] at H; have c3b0 : decide (x5_1 < (l0.length : Int)) = true := decide_eq_true c3; clear c3
    by_cases c4 : 0 ≤ x5_1
    ·rw [if_pos c4] at H; have c4b0 : decide (0 ≤ x5_1) = true := decide_eq_true c4; clear c4
     by_cases c5 : ((rd_T59 l0 x5_1).f0).toList = a1.toList
     ·rw [if_pos c5] at H; have c5b0 : (((rd_T59 l0 x5_1).f0).toList == a1.toList) = true := beq_iff_eq.mpr c5; have c5b1 : (((rd_T59 l0 x5_1).f0).toList != a1.toList) = false := bne_eq_false_iff_eq.mpr c5; clear c5; obtain rfl := Option.some.inj H; have p101 : 0 ≤ (x5_1 : Int) := of_decide_eq_true pcc1_0; have q101 : x5_1 < (l0.length : Int) := of_decide_eq_true pcc1_0; obtain ⟨ad101, e101, hx101_0, hx101_1, hx101_2, hx101_3⟩ := at_T59 HR0.out x5_1 p101 q101
      cases e101
      replace p101 := eq_true p101; replace q101 := eq_true q101
      go_wp2
      go_ret
      exact ⟨prr1_0, prr1_1⟩
     ·rw [if_neg c5] at H; have c5b0 : (((rd_T59 l0 x5_1).f0).toList == a1.toList) = false := beq_eq_false_iff_ne.mpr c5; have c5b1 : (((rd_T59 l0 x5_1).f0).toList != a1.toList) = true := bne_iff_ne.mpr c5; have H' := Aside0.mk H; clear H; have p101 : 0 ≤ (x5_1 : Int) := of_decide_eq_true pcc1_0; have q101 : x5_1 < (l0.length : Int) := of_decide_eq_true pcc1_0; obtain ⟨ad101, e101, hx101_0, hx101_1, hx101_2, hx101_3⟩ := at_T59 HR0.out x5_1 p101 q101
      cases e101
      replace p101 := eq_true p101; replace q101 := eq_true q101
      go_wp2
      go_roundg k1
      case measure => have := HK1.out; omega
      case rel => exact ⟨(wrap64 (x5_1 + 1)), prr1_0, H', ⟨by have := HK1.out; omega⟩, prr1_1⟩
    ·rw [if_neg c4] at H; exact absurd H (by simp)
   ·rw [if_neg c3] at H; have c3b0 : decide (x5_1 < (l0.length : Int)) = false := decide_eq_false c3; clear c3; obtain rfl := Option.some.inj H
    go_wp2
    go_ret
    exact ⟨prr1_0, prr1_1⟩
mutual
def accountingref25_check.j0 : Nat → List (S49) → List (S59) → Bool → Option (Int)
  | 0, _, _, _ => none
  | k + 1, x0, x1, x23 => if x23 = true then (some 10) else ((accountingref25_Codes.f k x1).bind fun t101 => (if t101 = true then (if (x0.length : Int) > 200 then (some 9) else (accountingref25_check.l0 k x0 x1 0)) else (some 2)))
def accountingref25_check.l0 : Nat → List (S49) → List (S59) → Int → Option (Int)
  | 0, _, _, _ => none
  | k + 1, x0, x1, x9 => if x9 < (x0.length : Int) then (if 0 ≤ x9 then ((accountingref25_large.f ((rd_T49 x0 x9).f0) 1000000000000).bind fun t103 => (if t103 = true then (some 4) else (if ((rd_T49 x0 x9).f1).toList = ([] : List UInt8) then (accountingref25_check.l0 k x0 x1 (wrap64 (x9 + 1))) else ((accountingref25_find.f k x1 ((rd_T49 x0 x9).f1)).bind fun t106 => (if t106 < 0 then (some 28) else (accountingref25_check.l0 k x0 x1 (wrap64 (x9 + 1)))))))) else (none)) else (some 0)
end
def accountingref25_check.f (k : Nat) (l0 : List (S49)) (l1 : List (S59)) (a2 : Int) (a3 : Int) : Option (Int) := if a2 < 1 then (accountingref25_check.j0 k l0 l1 true) else (if a2 > 3 then (accountingref25_check.j0 k l0 l1 true) else (if a3 < 1 then (accountingref25_check.j0 k l0 l1 true) else (accountingref25_check.j0 k l0 l1 (decide (a3 > 5)))))
theorem accountingref25_check.mono_l : ∀ k, (∀ y0 y1 y2, LeO (accountingref25_check.j0 k y0 y1 y2) (accountingref25_check.j0 (k + 1) y0 y1 y2)) ∧ (∀ y0 y1 y2, LeO (accountingref25_check.l0 k y0 y1 y2) (accountingref25_check.l0 (k + 1) y0 y1 y2))
  | 0 => ⟨fun _ _ _ r h => by simp [accountingref25_check.j0] at h, fun _ _ _ r h => by simp [accountingref25_check.l0] at h⟩
  | k + 1 => by
    obtain ⟨ih0, ih1⟩ := accountingref25_check.mono_l k; refine ⟨?_, ?_⟩
    · intro y0 y1 y2
      unfold accountingref25_check.j0
      repeat' first
      | (with_reducible exact ih0 _ _ _)
      | (with_reducible exact ih1 _ _ _)
      | (with_reducible exact accountingref25_Codes.mono _ _)
      | (with_reducible exact accountingref25_find.mono _ _ _)
      | (with_reducible exact LeO.refl _)
      | (with_reducible exact LeO.none _)
      | (with_reducible refine LeO.ite ?_ ?_)
      | (with_reducible refine LeO.bind ?_ (fun _ => ?_))
      | exact ih0 _ _ _
      | exact ih1 _ _ _
      | exact accountingref25_Codes.mono _ _
      | exact accountingref25_find.mono _ _ _
      | exact LeO.none _
      | refine LeO.ite ?_ ?_
      | refine LeO.bind ?_ (fun _ => ?_)
    · intro y0 y1 y2
      unfold accountingref25_check.l0
      repeat' first
      | (with_reducible exact ih0 _ _ _)
      | (with_reducible exact ih1 _ _ _)
      | (with_reducible exact accountingref25_Codes.mono _ _)
      | (with_reducible exact accountingref25_find.mono _ _ _)
      | (with_reducible exact LeO.refl _)
      | (with_reducible exact LeO.none _)
      | (with_reducible refine LeO.ite ?_ ?_)
      | (with_reducible refine LeO.bind ?_ (fun _ => ?_))
      | exact ih0 _ _ _
      | exact ih1 _ _ _
      | exact accountingref25_Codes.mono _ _
      | exact accountingref25_find.mono _ _ _
      | exact LeO.none _
      | refine LeO.ite ?_ ?_
      | refine LeO.bind ?_ (fun _ => ?_)
theorem accountingref25_check.mono : ∀ a0 a1 a2 a3 k, LeO (accountingref25_check.f k a0 a1 a2 a3) (accountingref25_check.f (k + 1) a0 a1 a2 a3) := by
 intro a0 a1 a2 a3 k; obtain ⟨ih0, ih1⟩ := accountingref25_check.mono_l k
 unfold accountingref25_check.f
 repeat' first
   | (with_reducible exact ih0 _ _ _)
   | (with_reducible exact ih1 _ _ _)
   | (with_reducible exact accountingref25_Codes.mono _ _)
   | (with_reducible exact accountingref25_find.mono _ _ _)
   | (with_reducible exact LeO.refl _)
   | (with_reducible exact LeO.none _)
   | (with_reducible refine LeO.ite ?_ ?_)
   | (with_reducible refine LeO.bind ?_ (fun _ => ?_))
   | exact ih0 _ _ _
   | exact ih1 _ _ _
   | exact accountingref25_Codes.mono _ _
   | exact accountingref25_find.mono _ _ _
   | exact LeO.none _
   | refine LeO.ite ?_ ?_
   | refine LeO.bind ?_ (fun _ => ?_)
set_option maxHeartbeats 8000000 in
set_option maxRecDepth 100000 in
theorem accountingref25_check.calls (k : Nat) (A0 : Option Addr) (c0 : Nat) (l0 : List (S49)) (A1 : Option Addr) (c1 : Nat) (l1 : List (S59)) (a2 : Int) (a3 : Int) (r : Int) (w : World) (hr0 : Kd.C k49 w A0 l0.length l0) (hc0 : l0.length ≤ c0) (hr1 : Kd.C k59 w A1 l1.length l1) (hc1 : l1.length ≤ c1) (h : accountingref25_check.f k l0 l1 a2 a3 = some r) :
    Calls Try.prog 35 #[.slice A0 l0.length c0, .slice A1 l1.length c1, .int .i64 a2, .int .i64 a3] w fun e w' => e = .returned (.int .i64 r) ∧ Below w.heap.size w w' := by
 have hu3 := Try.underlying3; have hu9 := Try.underlying9; have HR0 := Aside0.mk hr0; have HC0 := Aside0.mk hc0; clear hr0 hc0; have HR1 := Aside0.mk hr1; have HC1 := Aside0.mk hc1; clear hr1 hc1; have HB := Aside0.mk (Below.refl w.heap.size w); have H : (if a2 < 1 then (accountingref25_check.j0 k l0 l1 true) else (if a2 > 3 then (accountingref25_check.j0 k l0 l1 true) else (if a3 < 1 then (accountingref25_check.j0 k l0 l1 true) else (accountingref25_check.j0 k l0 l1 (decide (a3 > 5)))))) = some r := h; clear h; have HC5 := Aside0.mk H; clear H; go_enter Try.func35, Try.ntmps35
 go_upto_region 1 with (fail)
 go_cut [23] (fun v23 wc => ∃ (kq : Nat) (x23_4 : Bool), v23 = .bool x23_4 ∧ Aside0 (accountingref25_check.j0 kq l0 l1 x23_4 = some r) ∧ Aside0 (kq ≤ k) ∧ Aside0 (Below w.heap.size w wc))
 case first =>
  have H := HC5.out; clear HC5
  by_cases c6 : a2 < 1
  ·rw [if_pos c6] at H; have c6b0 : decide (a2 < 1) = true := decide_eq_true c6; clear c6; (first | rw [c6b0] | (simp only [i64_w, i32_w]; rw [c6b0]) | skip); have H' := Aside0.mk H; clear H
   go_wp2
   go_meet
   case rel => exact ⟨_, (true), prr1_0, H', ⟨by first | omega | exact Nat.le_refl _⟩, ⟨prr1_4⟩⟩
  ·rw [if_neg c6] at H; have c6b0 : decide (a2 < 1) = false := decide_eq_false c6; clear c6; (first | rw [c6b0] | (simp only [i64_w, i32_w]; rw [c6b0]) | skip)
   by_cases c7 : a2 > 3
   ·rw [if_pos c7] at H; have c7b0 : decide (3 < a2) = true := decide_eq_true c7; clear c7; have H' := Aside0.mk H; clear H
    go_wp2
    go_meet
    case rel => exact ⟨_, (true), prr1_0, H', ⟨by first | omega | exact Nat.le_refl _⟩, ⟨prr1_4⟩⟩
   ·rw [if_neg c7] at H; have c7b0 : decide (3 < a2) = false := decide_eq_false c7; clear c7
    by_cases c8 : a3 < 1
    ·rw [if_pos c8] at H; have c8b0 : decide (a3 < 1) = true := decide_eq_true c8; clear c8; have H' := Aside0.mk H; clear H
     go_wp2
     go_meet
     case rel => exact ⟨_, (true), prr1_0, H', ⟨by first | omega | exact Nat.le_refl _⟩, ⟨prr1_4⟩⟩
    ·rw [if_neg c8] at H; have c8b0 : decide (a3 < 1) = false := decide_eq_false c8; clear c8; have H' := Aside0.mk H; clear H
     go_wp2
     go_meet
     case rel => exact ⟨_, (decide (a3 > 5)), prr1_0, H', ⟨by first | omega | exact Nat.le_refl _⟩, ⟨prr1_4⟩⟩
 case rest =>
  clear HC5; (try clear c1); (try clear p2); (try clear c3); (try clear c6); (try clear c6b0); (try clear c7); (try clear c7b0); (try clear c8); (try clear c8b0); obtain ⟨kq, x23_4, rfl, HA, HJ4, HB⟩ := hcut
  cases kq with
  | zero => exact absurd HA.out (by simp [accountingref25_check.j0])
  | succ kj4 =>
   have H := HA.out; clear HA; simp only [accountingref25_check.j0] at H
   by_cases c9 : x23_4 = true
   ·subst c9; have H1 : (some 10) = some r := by rw [if_pos rfl] at H; exact H
    clear H; have H := H1; clear H1; obtain rfl := Option.some.inj H
    go_wp2
    go_ret
    exact ⟨prr1_6, prr1_4⟩
   ·replace c9 := Bool.eq_false_iff.mpr c9; subst c9; have H1 : ((accountingref25_Codes.f kj4 l1).bind fun t101 => (if t101 = true then (if (l0.length : Int) > 200 then (some 9) else (accountingref25_check.l0 kj4 l0 l1 0)) else (some 2))) = some r := by rw [if_neg (show ¬ (false = true) by decide)] at H; exact H
    clear H; have H := H1; clear H1; replace H := Option.bind_eq_some_iff.mp H; obtain ⟨t101, A100, H⟩ := H; replace H : (if t101 = true then (if (l0.length : Int) > 200 then (some 9) else (accountingref25_check.l0 kj4 l0 l1 0)) else (some 2)) = some r := H; have A10 := Aside0.mk A100; clear A100
    by_cases c11 : t101 = true
    ·subst c11; have H1 : (if (l0.length : Int) > 200 then (some 9) else (accountingref25_check.l0 kj4 l0 l1 0)) = some r := by rw [if_pos rfl] at H; exact H
     clear H; have H := H1; clear H1
     by_cases c12 : (l0.length : Int) > 200
     ·rw [if_pos c12] at H; have c12b0 : decide (200 < (l0.length : Int)) = true := decide_eq_true c12; have c12b1 : decide (200 < l0.length) = true := decide_eq_true (by omega); clear c12; obtain rfl := Option.some.inj H
      go_wp2_with (first | ((with_reducible refine gate_callee (f := 16) rfl ?_); refine goesL_ (some 25) rfl rfl Try.func16 (by kernel_rfl) rfl #[.slice A1 l1.length c1] rfl prr1_2 ?_; (with_reducible refine (accountingref25_Codes.calls kj4 _ _ l1 true _ ?side1 ?side2 A10.out).mono ?_); (case side1 => repeat (first | exact (Kd.C_below HR1.out HB.out) | (with_reducible refine Kd.C_alloc ?_ _) | (with_reducible refine Kd.C_drewN ?_ _) | (with_reducible refine Kd.C_drew ?_))); (case side2 => exact HC1.out); rintro e w13 ⟨rfl, hb⟩; refine ⟨_, rfl, ?_⟩; have n0_ := Aside0.mk (below_step prr1_4 hb); clear HB; have HB := n0_; clear n0_; (try clear hb); (try clear hb2); (try clear hk); (try clear hi)))
      go_ret
      exact ⟨prr1_6, prr1_4⟩
     ·rw [if_neg c12] at H; have c12b0 : decide (200 < (l0.length : Int)) = false := decide_eq_false c12; have c12b1 : decide (200 < l0.length) = false := decide_eq_false (by omega); clear c12; have H' := Aside0.mk H; clear H
      go_wp2_with (first | ((with_reducible refine gate_callee (f := 16) rfl ?_); refine goesL_ (some 25) rfl rfl Try.func16 (by kernel_rfl) rfl #[.slice A1 l1.length c1] rfl prr1_2 ?_; (with_reducible refine (accountingref25_Codes.calls kj4 _ _ l1 true _ ?side1 ?side2 A10.out).mono ?_); (case side1 => repeat (first | exact (Kd.C_below HR1.out HB.out) | (with_reducible refine Kd.C_alloc ?_ _) | (with_reducible refine Kd.C_drewN ?_ _) | (with_reducible refine Kd.C_drew ?_))); (case side2 => exact HC1.out); rintro e w14 ⟨rfl, hb⟩; refine ⟨_, rfl, ?_⟩; have n0_ := Aside0.mk (below_step prr1_4 hb); clear HB; have HB := n0_; clear n0_; (try clear hb); (try clear hb2); (try clear hk); (try clear hi)))
      (try simp only [Act.put, List.setIfInBounds_toArray, List.set_cons_zero, List.set_cons_succ])
      go_loopg [9] kj4 (fun kq v9 w' => ∃ (x9_2 : Int), v9 = .int .i64 x9_2 ∧ Aside0 (accountingref25_check.l0 kq l0 l1 x9_2 = some r) ∧ Aside0 (kq ≤ kj4) ∧ Aside0 (Below w.heap.size w w'))
      case atStart => exact ⟨(0), prr1_0, H', ⟨Nat.le_refl _⟩, ⟨prr1_4⟩⟩
      case round =>
       clear H'; (try clear c1); (try clear p2); (try clear c3); (try clear c6); (try clear c6b0); (try clear c7); (try clear c7b0); (try clear c8); (try clear c8b0); (try clear c9); (try clear c11); (try clear c12); (try clear c12b0); (try clear c12b1); (try clear p2); obtain ⟨x9_2, rfl, HA, HK2, HB⟩ := hrel
       cases gk with
       | zero => exact absurd HA.out (by simp [accountingref25_check.l0])
       | succ k2 =>
        have H := HA.out; clear HA; simp only [accountingref25_check.l0] at H
        by_cases c15 : x9_2 < (l0.length : Int)
        ·rw [if_pos c15] at H; have c15b0 : decide (x9_2 < (l0.length : Int)) = true := decide_eq_true c15; clear c15
         by_cases c16 : 0 ≤ x9_2
         ·rw [if_pos c16] at H; have c16b0 : decide (0 ≤ x9_2) = true := decide_eq_true c16; clear c16; replace H := Option.bind_eq_some_iff.mp H; obtain ⟨t103, A170, H⟩ := H; replace H : (if t103 = true then (some 4) else (if ((rd_T49 l0 x9_2).f1).toList = ([] : List UInt8) then (accountingref25_check.l0 k2 l0 l1 (wrap64 (x9_2 + 1))) else ((accountingref25_find.f k2 l1 ((rd_T49 l0 x9_2).f1)).bind fun t106 => (if t106 < 0 then (some 28) else (accountingref25_check.l0 k2 l0 l1 (wrap64 (x9_2 + 1))))))) = some r := H; have A17 := Aside0.mk A170; clear A170
          by_cases c18 : t103 = true
          ·subst c18; have H1 : (some 4) = some r := by rw [if_pos rfl] at H; exact H
           clear H; have H := H1; clear H1; obtain rfl := Option.some.inj H; have p102 : 0 ≤ (x9_2 : Int) := of_decide_eq_true pcc1_0; have q102 : x9_2 < (l0.length : Int) := of_decide_eq_true pcc1_0; obtain ⟨ad102, e102, hx102_0, hx102_1⟩ := at_T49 HR0.out x9_2 p102 q102
           cases e102
           replace hx102_0 := (HB.out.cell (World.block_lt_of_cell? w _ hx102_0)).trans hx102_0; replace hx102_1 := (HB.out.cell (World.block_lt_of_cell? w _ hx102_1)).trans hx102_1; replace p102 := eq_true p102; replace q102 := eq_true q102
           go_wp2_with (first | ((with_reducible refine gate_callee (f := 43) rfl ?_); refine goesL_ (some 41) rfl rfl Try.func43 (by kernel_rfl) rfl #[.int .i64 ((rd_T49 l0 x9_2).f0), .int .i64 1000000000000] rfl prr1_2 ?_; (with_reducible refine (accountingref25_large.calls ((rd_T49 l0 x9_2).f0) 1000000000000 true _ A17.out).mono ?_); rintro e w' ⟨rfl, ⟨nd, rfl⟩⟩; refine ⟨_, rfl, ?_⟩))
           go_ret
           exact ⟨prr1_6, prr1_4⟩
          ·replace c18 := Bool.eq_false_iff.mpr c18; subst c18; have H1 : (if ((rd_T49 l0 x9_2).f1).toList = ([] : List UInt8) then (accountingref25_check.l0 k2 l0 l1 (wrap64 (x9_2 + 1))) else ((accountingref25_find.f k2 l1 ((rd_T49 l0 x9_2).f1)).bind fun t106 => (if t106 < 0 then (some 28) else (accountingref25_check.l0 k2 l0 l1 (wrap64 (x9_2 + 1)))))) = some r := by rw [if_neg (show ¬ (false = true) by decide)] at H; exact H
           clear H; have H := H1; clear H1
           by_cases c19 : ((rd_T49 l0 x9_2).f1).toList = ([] : List UInt8)
           ·rw [if_pos c19] at H; have c19b0 : (((rd_T49 l0 x9_2).f1).toList == ([] : List UInt8)) = true := beq_iff_eq.mpr c19; have c19b1 : (((rd_T49 l0 x9_2).f1).toList != ([] : List UInt8)) = false := bne_eq_false_iff_eq.mpr c19; clear c19; have H' := Aside0.mk H; clear H; have p102 : 0 ≤ (x9_2 : Int) := of_decide_eq_true pcc1_0; have q102 : x9_2 < (l0.length : Int) := of_decide_eq_true pcc1_0; obtain ⟨ad102, e102, hx102_0, hx102_1⟩ := at_T49 HR0.out x9_2 p102 q102
            cases e102
            replace hx102_0 := (HB.out.cell (World.block_lt_of_cell? w _ hx102_0)).trans hx102_0; replace hx102_1 := (HB.out.cell (World.block_lt_of_cell? w _ hx102_1)).trans hx102_1; replace p102 := eq_true p102; replace q102 := eq_true q102
            go_wp2_with (first | ((with_reducible refine gate_callee (f := 43) rfl ?_); refine goesL_ (some 41) rfl rfl Try.func43 (by kernel_rfl) rfl #[.int .i64 ((rd_T49 l0 x9_2).f0), .int .i64 1000000000000] rfl prr1_2 ?_; (with_reducible refine (accountingref25_large.calls ((rd_T49 l0 x9_2).f0) 1000000000000 false _ A17.out).mono ?_); rintro e w' ⟨rfl, ⟨nd, rfl⟩⟩; refine ⟨_, rfl, ?_⟩; have p104 : 0 ≤ (x9_2 : Int) := of_decide_eq_true pcc1_0; have q104 : x9_2 < (l0.length : Int) := of_decide_eq_true pcc1_0; obtain ⟨ad104, e104, hx104_0, hx104_1⟩ := at_T49 HR0.out x9_2 p104 q104; obtain rfl : ad102 = ad104 := (by injection e104); replace hx104_0 := (HB.out.cell (World.block_lt_of_cell? w _ hx104_0)).trans hx104_0; replace hx104_1 := (HB.out.cell (World.block_lt_of_cell? w _ hx104_1)).trans hx104_1; replace p104 := eq_true p104; replace q104 := eq_true q104))
            go_roundg k2
            case measure => have := HJ4.out; have := HK2.out; omega
            case rel => exact ⟨(wrap64 (x9_2 + 1)), prr1_0, H', ⟨by have := HJ4.out; have := HK2.out; omega⟩, ⟨prr1_4⟩⟩
           ·rw [if_neg c19] at H; have c19b0 : (((rd_T49 l0 x9_2).f1).toList == ([] : List UInt8)) = false := beq_eq_false_iff_ne.mpr c19; have c19b1 : (((rd_T49 l0 x9_2).f1).toList != ([] : List UInt8)) = true := bne_iff_ne.mpr c19; replace H := Option.bind_eq_some_iff.mp H; obtain ⟨t106, A200, H⟩ := H; replace H : (if t106 < 0 then (some 28) else (accountingref25_check.l0 k2 l0 l1 (wrap64 (x9_2 + 1)))) = some r := H; have A20 := Aside0.mk A200; clear A200
            by_cases c21 : t106 < 0
            ·rw [if_pos c21] at H; have c21b0 : decide (t106 < 0) = true := decide_eq_true c21; clear c21; obtain rfl := Option.some.inj H; have p102 : 0 ≤ (x9_2 : Int) := of_decide_eq_true pcc1_0; have q102 : x9_2 < (l0.length : Int) := of_decide_eq_true pcc1_0; obtain ⟨ad102, e102, hx102_0, hx102_1⟩ := at_T49 HR0.out x9_2 p102 q102
             cases e102
             replace hx102_0 := (HB.out.cell (World.block_lt_of_cell? w _ hx102_0)).trans hx102_0; replace hx102_1 := (HB.out.cell (World.block_lt_of_cell? w _ hx102_1)).trans hx102_1; replace p102 := eq_true p102; replace q102 := eq_true q102
             go_wp2_with (first | ((with_reducible refine gate_callee (f := 43) rfl ?_); refine goesL_ (some 41) rfl rfl Try.func43 (by kernel_rfl) rfl #[.int .i64 ((rd_T49 l0 x9_2).f0), .int .i64 1000000000000] rfl prr1_2 ?_; (with_reducible refine (accountingref25_large.calls ((rd_T49 l0 x9_2).f0) 1000000000000 false _ A17.out).mono ?_); rintro e w' ⟨rfl, ⟨nd, rfl⟩⟩; refine ⟨_, rfl, ?_⟩; have p104 : 0 ≤ (x9_2 : Int) := of_decide_eq_true pcc1_0; have q104 : x9_2 < (l0.length : Int) := of_decide_eq_true pcc1_0; obtain ⟨ad104, e104, hx104_0, hx104_1⟩ := at_T49 HR0.out x9_2 p104 q104; obtain rfl : ad102 = ad104 := (by injection e104); replace hx104_0 := (HB.out.cell (World.block_lt_of_cell? w _ hx104_0)).trans hx104_0; replace hx104_1 := (HB.out.cell (World.block_lt_of_cell? w _ hx104_1)).trans hx104_1; replace p104 := eq_true p104; replace q104 := eq_true q104; have p105 : 0 ≤ (x9_2 : Int) := of_decide_eq_true pcc1_0; have q105 : x9_2 < (l0.length : Int) := of_decide_eq_true pcc1_0; obtain ⟨ad105, e105, hx105_0, hx105_1⟩ := at_T49 HR0.out x9_2 p105 q105; obtain rfl : ad102 = ad105 := (by injection e105); replace hx105_0 := (HB.out.cell (World.block_lt_of_cell? w _ hx105_0)).trans hx105_0; replace hx105_1 := (HB.out.cell (World.block_lt_of_cell? w _ hx105_1)).trans hx105_1; replace p105 := eq_true p105; replace q105 := eq_true q105) | (go_at_call 63; (with_reducible refine (accountingref25_find.calls k2 _ _ l1 ((rd_T49 l0 x9_2).f1) t106 _ ?side1 ?side2 A20.out).mono ?_); (case side1 => repeat (first | exact (Kd.C_below HR1.out prr1_4) | (with_reducible refine Kd.C_alloc ?_ _) | (with_reducible refine Kd.C_drewN ?_ _) | (with_reducible refine Kd.C_drew ?_))); (case side2 => exact HC1.out); rintro e w' ⟨rfl, ⟨nd, rfl⟩⟩))
             go_ret
             exact ⟨prr1_6, prr1_4⟩
            ·rw [if_neg c21] at H; have c21b0 : decide (t106 < 0) = false := decide_eq_false c21; clear c21; have H' := Aside0.mk H; clear H; have p102 : 0 ≤ (x9_2 : Int) := of_decide_eq_true pcc1_0; have q102 : x9_2 < (l0.length : Int) := of_decide_eq_true pcc1_0; obtain ⟨ad102, e102, hx102_0, hx102_1⟩ := at_T49 HR0.out x9_2 p102 q102
             cases e102
             replace hx102_0 := (HB.out.cell (World.block_lt_of_cell? w _ hx102_0)).trans hx102_0; replace hx102_1 := (HB.out.cell (World.block_lt_of_cell? w _ hx102_1)).trans hx102_1; replace p102 := eq_true p102; replace q102 := eq_true q102
             go_wp2_with (first | ((with_reducible refine gate_callee (f := 43) rfl ?_); refine goesL_ (some 41) rfl rfl Try.func43 (by kernel_rfl) rfl #[.int .i64 ((rd_T49 l0 x9_2).f0), .int .i64 1000000000000] rfl prr1_2 ?_; (with_reducible refine (accountingref25_large.calls ((rd_T49 l0 x9_2).f0) 1000000000000 false _ A17.out).mono ?_); rintro e w' ⟨rfl, ⟨nd, rfl⟩⟩; refine ⟨_, rfl, ?_⟩; have p104 : 0 ≤ (x9_2 : Int) := of_decide_eq_true pcc1_0; have q104 : x9_2 < (l0.length : Int) := of_decide_eq_true pcc1_0; obtain ⟨ad104, e104, hx104_0, hx104_1⟩ := at_T49 HR0.out x9_2 p104 q104; obtain rfl : ad102 = ad104 := (by injection e104); replace hx104_0 := (HB.out.cell (World.block_lt_of_cell? w _ hx104_0)).trans hx104_0; replace hx104_1 := (HB.out.cell (World.block_lt_of_cell? w _ hx104_1)).trans hx104_1; replace p104 := eq_true p104; replace q104 := eq_true q104; have p105 : 0 ≤ (x9_2 : Int) := of_decide_eq_true pcc1_0; have q105 : x9_2 < (l0.length : Int) := of_decide_eq_true pcc1_0; obtain ⟨ad105, e105, hx105_0, hx105_1⟩ := at_T49 HR0.out x9_2 p105 q105; obtain rfl : ad102 = ad105 := (by injection e105); replace hx105_0 := (HB.out.cell (World.block_lt_of_cell? w _ hx105_0)).trans hx105_0; replace hx105_1 := (HB.out.cell (World.block_lt_of_cell? w _ hx105_1)).trans hx105_1; replace p105 := eq_true p105; replace q105 := eq_true q105) | (go_at_call 63; (with_reducible refine (accountingref25_find.calls k2 _ _ l1 ((rd_T49 l0 x9_2).f1) t106 _ ?side1 ?side2 A20.out).mono ?_); (case side1 => repeat (first | exact (Kd.C_below HR1.out prr1_4) | (with_reducible refine Kd.C_alloc ?_ _) | (with_reducible refine Kd.C_drewN ?_ _) | (with_reducible refine Kd.C_drew ?_))); (case side2 => exact HC1.out); rintro e w' ⟨rfl, ⟨nd, rfl⟩⟩))
             go_roundg k2
             case measure => have := HJ4.out; have := HK2.out; omega
             case rel => exact ⟨(wrap64 (x9_2 + 1)), prr1_0, H', ⟨by have := HJ4.out; have := HK2.out; omega⟩, ⟨prr1_4⟩⟩
         ·rw [if_neg c16] at H; exact absurd H (by simp)
        ·rw [if_neg c15] at H; have c15b0 : decide (x9_2 < (l0.length : Int)) = false := decide_eq_false c15; clear c15; obtain rfl := Option.some.inj H
         go_wp2
         go_ret
         exact ⟨prr1_6, prr1_4⟩
    ·replace c11 := Bool.eq_false_iff.mpr c11; subst c11; have H1 : (some 2) = some r := by rw [if_neg (show ¬ (false = true) by decide)] at H; exact H
     clear H; have H := H1; clear H1; obtain rfl := Option.some.inj H
     go_wp2_with (first | ((with_reducible refine gate_callee (f := 16) rfl ?_); refine goesL_ (some 25) rfl rfl Try.func16 (by kernel_rfl) rfl #[.slice A1 l1.length c1] rfl prr1_2 ?_; (with_reducible refine (accountingref25_Codes.calls kj4 _ _ l1 false _ ?side1 ?side2 A10.out).mono ?_); (case side1 => repeat (first | exact (Kd.C_below HR1.out HB.out) | (with_reducible refine Kd.C_alloc ?_ _) | (with_reducible refine Kd.C_drewN ?_ _) | (with_reducible refine Kd.C_drew ?_))); (case side2 => exact HC1.out); rintro e w22 ⟨rfl, hb⟩; refine ⟨_, rfl, ?_⟩; have n0_ := Aside0.mk (below_step prr1_4 hb); clear HB; have HB := n0_; clear n0_; (try clear hb); (try clear hb2); (try clear hk); (try clear hi)))
     go_ret
     exact ⟨prr1_6, prr1_4⟩
def accountingref25_one.f (k : Nat) (a0_0 : Int) (a0_1 : ByteArray) (a1_0 : ByteArray) (a1_1 : ByteArray) (a1_2 : Int) (a1_3 : Int) (a2 : Int) (a3 : Int) : Option (Int × Int) := if a2 = 3 then ((accountingref25_In.f k a0_0 a1_2 a1_3 a3).bind fun bt103 => (some (bt103.1, bt103.2.1))) else ((accountingref25_On.f k a0_0 a1_2 a1_3 a3).bind fun bt106 => (some (a0_0, bt106.1)))
theorem accountingref25_one.mono : ∀ a0 a1 a2 a3 a4 a5 a6 a7 k, LeO (accountingref25_one.f k a0 a1 a2 a3 a4 a5 a6 a7) (accountingref25_one.f (k + 1) a0 a1 a2 a3 a4 a5 a6 a7) := by
 intro a0 a1 a2 a3 a4 a5 a6 a7 k
 unfold accountingref25_one.f
 repeat' first
   | (with_reducible exact accountingref25_In.mono _ _ _ _ _)
   | (with_reducible exact accountingref25_On.mono _ _ _ _ _)
   | (with_reducible exact LeO.refl _)
   | (with_reducible exact LeO.none _)
   | (with_reducible refine LeO.ite ?_ ?_)
   | (with_reducible refine LeO.bind ?_ (fun _ => ?_))
   | exact accountingref25_In.mono _ _ _ _ _
   | exact accountingref25_On.mono _ _ _ _ _
   | exact LeO.none _
   | refine LeO.ite ?_ ?_
   | refine LeO.bind ?_ (fun _ => ?_)
set_option maxHeartbeats 8000000 in
set_option maxRecDepth 100000 in
theorem accountingref25_one.calls (k : Nat) (a0_0 : Int) (a0_1 : ByteArray) (a1_0 : ByteArray) (a1_1 : ByteArray) (a1_2 : Int) (a1_3 : Int) (a2 : Int) (a3 : Int) (r1 : Int) (r2 : Int) (w : World) (h : accountingref25_one.f k a0_0 a0_1 a1_0 a1_1 a1_2 a1_3 a2 a3 = some (r1, r2)) :
    Calls Try.prog 36 #[.agg #[.int .i64 a0_0, .string a0_1], .agg #[.string a1_0, .string a1_1, .int .i64 a1_2, .int .i64 a1_3], .int .i64 a2, .int .i64 a3] w fun e w' => e = .returned (.tuple #[.int .i64 r1, .int .i64 r2]) ∧ Below w.heap.size w w' := by
 have hu49 := Try.underlying49; have hu59 := Try.underlying59; have hu3 := Try.underlying3; have hu23 := Try.underlying23; have HB := Aside0.mk (Below.refl w.heap.size w); have H : (if a2 = 3 then ((accountingref25_In.f k a0_0 a1_2 a1_3 a3).bind fun bt103 => (some (bt103.1, bt103.2.1))) else ((accountingref25_On.f k a0_0 a1_2 a1_3 a3).bind fun bt106 => (some (a0_0, bt106.1)))) = some (r1, r2) := h; clear h
 by_cases c5 : a2 = 3
 ·rw [if_pos c5] at H; have c5b0 : (a2 == 3) = true := beq_iff_eq.mpr c5; have c5b1 : (a2 != 3) = false := bne_eq_false_iff_eq.mpr c5; clear c5; replace H := Option.bind_eq_some_iff.mp H; obtain ⟨⟨t103, t104, t105⟩, A60, H⟩ := H; replace H : (some (t103, t104)) = some (r1, r2) := H; have A6 := Aside0.mk A60; clear A60; simp only [Option.some.injEq, Prod.mk.injEq] at H; obtain ⟨rfl, rfl⟩ := H; go_enter Try.func36, Try.ntmps36
  go_wp2_with (first | ((with_reducible refine gate_dst (N := 4) rfl ?_); refine box_event ?hg (N := 4) ?hd (cs := #[.int .i64 a0_0, .string a0_1]) (t := 49) ?hr ?_; (case hd => rfl); (case hg => rfl); (case hr => first | (go_simp; done) | (go_simp; rfl)); intro gb101 hg w7 hbox hb; have n0_ := Aside0.mk (below_step prr1_4 hb); have n1_ := Aside0.mk (hbox); have n2_ := Aside0.mk ((prr1_5 : w.heap.size ≤ gb101)); have n3_ := Aside0.mk ((prr1_5 : w.heap.size ≤ gb101)); clear HB; have HB := n0_; have BK101 := n1_; have GW101 := n2_; have GE101 := n3_; clear n0_ n1_ n2_ n3_; clear hb hbox hg) | ((with_reducible refine gate_dst (N := 5) rfl ?_); refine box_event ?hg (N := 5) ?hd (cs := #[.string a1_0, .string a1_1, .int .i64 a1_2, .int .i64 a1_3]) (t := 59) ?hr ?_; (case hd => rfl); (case hg => rfl); (case hr => first | (go_simp; done) | (go_simp; rfl)); intro gb102 hg w8 hbox hb; have n0_ := Aside0.mk (blk_below (g := gb101) (o := .cells #[.int .i64 a0_0, .string a0_1] 49 (0, 0)) prr1_8 hb); have n1_ := Aside0.mk (below_step prr1_7 hb); have n2_ := Aside0.mk (hbox); have n3_ := Aside0.mk ((pof1_0 : w.heap.size ≤ gb102)); have n4_ := Aside0.mk ((pof1_0 : w.heap.size ≤ gb102)); have n5_ := Aside0.mk ((by rw [hg]; exact Nat.ne_of_lt (blk_lt (g := gb101) (o := .cells #[.int .i64 a0_0, .string a0_1] 49 (0, 0)) prr1_8) : gb101 ≠ gb102)); have n6_ := Aside0.mk ((by rw [hg]; exact Nat.ne_of_gt (blk_lt (g := gb101) (o := .cells #[.int .i64 a0_0, .string a0_1] 49 (0, 0)) prr1_8) : gb102 ≠ gb101)); clear BK101; clear HB; have BK101 := n0_; have HB := n1_; have BK102 := n2_; have GW102 := n3_; have GE102 := n4_; have NB101_102 := n5_; have NB102_101 := n6_; clear n0_ n1_ n2_ n3_ n4_ n5_ n6_; clear hb hbox hg; have hnb9 := NB101_102.out; have hnc9 := NB102_101.out; have hcz10_0 : w8.cell? ⟨gb101, 0, none⟩ = some (.int .i64 a0_0) := (blk_cell BK101.out 0).trans rfl; have hcz10_1 : w8.cell? ⟨gb101, 1, none⟩ = some (.string a0_1) := (blk_cell BK101.out 1).trans rfl; have hfz10_0 := blk_frozen BK101.out 0; have hfz10_1 := blk_frozen BK101.out 1; have hcz11_0 : w8.cell? ⟨gb102, 0, none⟩ = some (.string a1_0) := (blk_cell BK102.out 0).trans rfl; have hcz11_1 : w8.cell? ⟨gb102, 1, none⟩ = some (.string a1_1) := (blk_cell BK102.out 1).trans rfl; have hcz11_2 : w8.cell? ⟨gb102, 2, none⟩ = some (.int .i64 a1_2) := (blk_cell BK102.out 2).trans rfl; have hcz11_3 : w8.cell? ⟨gb102, 3, none⟩ = some (.int .i64 a1_3) := (blk_cell BK102.out 3).trans rfl; have hfz11_0 := blk_frozen BK102.out 0; have hfz11_1 := blk_frozen BK102.out 1; have hfz11_2 := blk_frozen BK102.out 2; have hfz11_3 := blk_frozen BK102.out 3) | ((with_reducible refine gate_callee (f := 14) rfl ?_); refine goesL_ (some 23) rfl rfl Try.func14 (by kernel_rfl) rfl #[.int .i64 a0_0, .agg #[.int .i64 a1_2, .int .i64 a1_3], .int .i64 a3] rfl prr1_2 ?_; (with_reducible refine (accountingref25_In.calls k a0_0 a1_2 a1_3 a3 t103 t104 t105 _ A6.out).mono ?_); rintro e w12 ⟨rfl, hb⟩; refine ⟨_, rfl, ?_⟩; have n0_ := Aside0.mk (blk_below (g := gb101) (o := .cells #[.int .i64 a0_0, .string a0_1] 49 (0, 0)) prr1_8 hb); have n1_ := Aside0.mk (blk_below (g := gb102) (o := .cells #[.string a1_0, .string a1_1, .int .i64 a1_2, .int .i64 a1_3] 59 (0, 0)) (by (with_reducible repeat (first | refine blk_drewN ?_ _ | refine blk_drew ?_ | refine blk_alloc ?_ _)); exact BK102.out) hb); have n2_ := Aside0.mk (below_step pof1_1 hb); clear BK101; clear BK102; clear HB; have BK101 := n0_; have BK102 := n1_; have HB := n2_; clear n0_ n1_ n2_; (try clear hb); (try clear hb2); (try clear hk); (try clear hi)))
  go_ret2
  exact ⟨prr1_6, pof1_1⟩
 ·rw [if_neg c5] at H; have c5b0 : (a2 == 3) = false := beq_eq_false_iff_ne.mpr c5; have c5b1 : (a2 != 3) = true := bne_iff_ne.mpr c5; replace H := Option.bind_eq_some_iff.mp H; obtain ⟨⟨t106, t107⟩, A130, H⟩ := H; replace H : (some (a0_0, t106)) = some (r1, r2) := H; have A13 := Aside0.mk A130; clear A130; simp only [Option.some.injEq, Prod.mk.injEq] at H; obtain ⟨rfl, rfl⟩ := H; go_enter Try.func36, Try.ntmps36
  go_wp2_with (first | ((with_reducible refine gate_dst (N := 4) rfl ?_); refine box_event ?hg (N := 4) ?hd (cs := #[.int .i64 a0_0, .string a0_1]) (t := 49) ?hr ?_; (case hd => rfl); (case hg => rfl); (case hr => first | (go_simp; done) | (go_simp; rfl)); intro gb101 hg w14 hbox hb; have n0_ := Aside0.mk (below_step prr1_4 hb); have n1_ := Aside0.mk (hbox); have n2_ := Aside0.mk ((prr1_5 : w.heap.size ≤ gb101)); have n3_ := Aside0.mk ((prr1_5 : w.heap.size ≤ gb101)); clear HB; have HB := n0_; have BK101 := n1_; have GW101 := n2_; have GE101 := n3_; clear n0_ n1_ n2_ n3_; clear hb hbox hg) | ((with_reducible refine gate_dst (N := 5) rfl ?_); refine box_event ?hg (N := 5) ?hd (cs := #[.string a1_0, .string a1_1, .int .i64 a1_2, .int .i64 a1_3]) (t := 59) ?hr ?_; (case hd => rfl); (case hg => rfl); (case hr => first | (go_simp; done) | (go_simp; rfl)); intro gb102 hg w15 hbox hb; have n0_ := Aside0.mk (blk_below (g := gb101) (o := .cells #[.int .i64 a0_0, .string a0_1] 49 (0, 0)) prr1_8 hb); have n1_ := Aside0.mk (below_step prr1_7 hb); have n2_ := Aside0.mk (hbox); have n3_ := Aside0.mk ((pof1_0 : w.heap.size ≤ gb102)); have n4_ := Aside0.mk ((pof1_0 : w.heap.size ≤ gb102)); have n5_ := Aside0.mk ((by rw [hg]; exact Nat.ne_of_lt (blk_lt (g := gb101) (o := .cells #[.int .i64 a0_0, .string a0_1] 49 (0, 0)) prr1_8) : gb101 ≠ gb102)); have n6_ := Aside0.mk ((by rw [hg]; exact Nat.ne_of_gt (blk_lt (g := gb101) (o := .cells #[.int .i64 a0_0, .string a0_1] 49 (0, 0)) prr1_8) : gb102 ≠ gb101)); clear BK101; clear HB; have BK101 := n0_; have HB := n1_; have BK102 := n2_; have GW102 := n3_; have GE102 := n4_; have NB101_102 := n5_; have NB102_101 := n6_; clear n0_ n1_ n2_ n3_ n4_ n5_ n6_; clear hb hbox hg; have hnb16 := NB101_102.out; have hnc16 := NB102_101.out; have hcz17_0 : w15.cell? ⟨gb101, 0, none⟩ = some (.int .i64 a0_0) := (blk_cell BK101.out 0).trans rfl; have hcz17_1 : w15.cell? ⟨gb101, 1, none⟩ = some (.string a0_1) := (blk_cell BK101.out 1).trans rfl; have hfz17_0 := blk_frozen BK101.out 0; have hfz17_1 := blk_frozen BK101.out 1; have hcz18_0 : w15.cell? ⟨gb102, 0, none⟩ = some (.string a1_0) := (blk_cell BK102.out 0).trans rfl; have hcz18_1 : w15.cell? ⟨gb102, 1, none⟩ = some (.string a1_1) := (blk_cell BK102.out 1).trans rfl; have hcz18_2 : w15.cell? ⟨gb102, 2, none⟩ = some (.int .i64 a1_2) := (blk_cell BK102.out 2).trans rfl; have hcz18_3 : w15.cell? ⟨gb102, 3, none⟩ = some (.int .i64 a1_3) := (blk_cell BK102.out 3).trans rfl; have hfz18_0 := blk_frozen BK102.out 0; have hfz18_1 := blk_frozen BK102.out 1; have hfz18_2 := blk_frozen BK102.out 2; have hfz18_3 := blk_frozen BK102.out 3) | ((with_reducible refine gate_callee (f := 11) rfl ?_); refine goesL_ (some 35) rfl rfl Try.func11 (by kernel_rfl) rfl #[.int .i64 a0_0, .agg #[.int .i64 a1_2, .int .i64 a1_3], .int .i64 a3] rfl prr1_2 ?_; (with_reducible refine (accountingref25_On.calls k a0_0 a1_2 a1_3 a3 t106 t107 _ A13.out).mono ?_); rintro e w19 ⟨rfl, hb⟩; refine ⟨_, rfl, ?_⟩; have n0_ := Aside0.mk (blk_below (g := gb101) (o := .cells #[.int .i64 a0_0, .string a0_1] 49 (0, 0)) prr1_8 hb); have n1_ := Aside0.mk (blk_below (g := gb102) (o := .cells #[.string a1_0, .string a1_1, .int .i64 a1_2, .int .i64 a1_3] 59 (0, 0)) (by (with_reducible repeat (first | refine blk_drewN ?_ _ | refine blk_drew ?_ | refine blk_alloc ?_ _)); exact BK102.out) hb); have n2_ := Aside0.mk (below_step pof1_1 hb); clear BK101; clear BK102; clear HB; have BK101 := n0_; have BK102 := n1_; have HB := n2_; clear n0_ n1_ n2_; (try clear hb); (try clear hb2); (try clear hk); (try clear hi); have hcz20_0 : w19.cell? ⟨gb101, 0, none⟩ = some (.int .i64 a0_0) := (blk_cell BK101.out 0).trans rfl; have hcz20_1 : w19.cell? ⟨gb101, 1, none⟩ = some (.string a0_1) := (blk_cell BK101.out 1).trans rfl; have hfz20_0 := blk_frozen BK101.out 0; have hfz20_1 := blk_frozen BK101.out 1))
  go_ret2
  exact ⟨prr1_6, pof1_1⟩
mutual
def accountingref25_Of.l0 : Nat → List (S49) → List (S59) → Int → Int → List Int → Int → Option (List Int × (List (S51)) × Int)
  | 0, _, _, _, _, _, _ => none
  | k + 1, x0, x1, x2, x3, x12, x13 => if x13 < (x0.length : Int) then (if 0 ≤ x13 then (if x12.length < 17592186044416 then (accountingref25_Of.l0 k x0 x1 x2 x3 (x12 ++ [(rd_T49 x0 x13).f0]) (wrap64 (x13 + 1))) else (none)) else (none)) else (accountingref25_Of.l1 k x0 x1 x2 x3 x12 ([] : List (S51)) 0)
def accountingref25_Of.l1 : Nat → List (S49) → List (S59) → Int → Int → List Int → List (S51) → Int → Option (List Int × (List (S51)) × Int)
  | 0, _, _, _, _, _, _, _ => none
  | k + 1, x0, x1, x2, x3, x12, x14, x15 => if x15 < (x1.length : Int) then (if 0 ≤ x15 then (accountingref25_Of.l2 k x0 x1 x2 x3 x12 x14 x15 false 0 ((rd_T59 x1 x15).f0) 0 0) else (none)) else (some (x12, x14, 0))
def accountingref25_Of.l2 : Nat → List (S49) → List (S59) → Int → Int → List Int → List (S51) → Int → Bool → Int → ByteArray → Int → Int → Option (List Int × (List (S51)) × Int)
  | 0, _, _, _, _, _, _, _, _, _, _, _, _ => none
  | k + 1, x0, x1, x2, x3, x12, x14, x15, x17, x18, x108000, x108001, x108002 => if x18 < (x0.length : Int) then (if 0 ≤ x18 then (if 0 ≤ x15 then (if x15 < (x1.length : Int) then (if ((rd_T49 x0 x18).f1).toList = ((rd_T59 x1 x15).f0).toList then ((accountingref25_one.f k ((rd_T49 x0 x18).f0) ((rd_T49 x0 x18).f1) ((rd_T59 x1 x15).f0) ((rd_T59 x1 x15).f1) ((rd_T59 x1 x15).f2.f0) ((rd_T59 x1 x15).f2.f1) x2 x3).bind fun bt112 => (if x18 < (x12.length : Int) then (accountingref25_Of.l2 k x0 x1 x2 x3 (x12.set (x18 : Int).toNat bt112.1) x14 x15 true (wrap64 (x18 + 1)) x108000 (wrap64 (x108001 + bt112.1)) (wrap64 (x108002 + bt112.2))) else (none))) else (accountingref25_Of.l2 k x0 x1 x2 x3 x12 x14 x15 x17 (wrap64 (x18 + 1)) x108000 x108001 x108002)) else (none)) else (none)) else (none)) else (if x2 = 2 then (if 0 ≤ x15 then (if x15 < (x1.length : Int) then ((accountingref25_On.f k x108001 ((rd_T59 x1 x15).f2.f0) ((rd_T59 x1 x15).f2.f1) x3).bind fun bt116 => (if x17 = true then (if x14.length < 4398046511104 then (accountingref25_Of.l1 k x0 x1 x2 x3 x12 (x14 ++ [(⟨x108000, x108001, bt116.1⟩ : S51)]) (wrap64 (x15 + 1))) else (none)) else (accountingref25_Of.l1 k x0 x1 x2 x3 x12 x14 (wrap64 (x15 + 1))))) else (none)) else (none)) else (if x17 = true then (if x14.length < 4398046511104 then (accountingref25_Of.l1 k x0 x1 x2 x3 x12 (x14 ++ [(⟨x108000, x108001, x108002⟩ : S51)]) (wrap64 (x15 + 1))) else (none)) else (accountingref25_Of.l1 k x0 x1 x2 x3 x12 x14 (wrap64 (x15 + 1)))))
end
def accountingref25_Of.f (k : Nat) (l0 : List (S49)) (l1 : List (S59)) (a2 : Int) (a3 : Int) : Option (List Int × (List (S51)) × Int) := (accountingref25_check.f k l0 l1 a2 a3).bind fun t101 => (if t101 = 0 then (accountingref25_Of.l0 k l0 l1 a2 a3 ([] : List Int) 0) else (some (([] : List Int), ([] : List (S51)), t101)))
theorem accountingref25_Of.mono_l : ∀ k, (∀ y0 y1 y2 y3 y4 y5, LeO (accountingref25_Of.l0 k y0 y1 y2 y3 y4 y5) (accountingref25_Of.l0 (k + 1) y0 y1 y2 y3 y4 y5)) ∧ (∀ y0 y1 y2 y3 y4 y5 y6, LeO (accountingref25_Of.l1 k y0 y1 y2 y3 y4 y5 y6) (accountingref25_Of.l1 (k + 1) y0 y1 y2 y3 y4 y5 y6)) ∧ (∀ y0 y1 y2 y3 y4 y5 y6 y7 y8 y9 y10 y11, LeO (accountingref25_Of.l2 k y0 y1 y2 y3 y4 y5 y6 y7 y8 y9 y10 y11) (accountingref25_Of.l2 (k + 1) y0 y1 y2 y3 y4 y5 y6 y7 y8 y9 y10 y11))
  | 0 => ⟨fun _ _ _ _ _ _ r h => by simp [accountingref25_Of.l0] at h, fun _ _ _ _ _ _ _ r h => by simp [accountingref25_Of.l1] at h, fun _ _ _ _ _ _ _ _ _ _ _ _ r h => by simp [accountingref25_Of.l2] at h⟩
  | k + 1 => by
    obtain ⟨ih0, ih1, ih2⟩ := accountingref25_Of.mono_l k; refine ⟨?_, ?_, ?_⟩
    · intro y0 y1 y2 y3 y4 y5
      unfold accountingref25_Of.l0
      repeat' first
      | (with_reducible exact ih0 _ _ _ _ _ _)
      | (with_reducible exact ih1 _ _ _ _ _ _ _)
      | (with_reducible exact ih2 _ _ _ _ _ _ _ _ _ _ _ _)
      | (with_reducible exact accountingref25_On.mono _ _ _ _ _)
      | (with_reducible exact accountingref25_check.mono _ _ _ _ _)
      | (with_reducible exact accountingref25_one.mono _ _ _ _ _ _ _ _ _)
      | (with_reducible exact LeO.refl _)
      | (with_reducible exact LeO.none _)
      | (with_reducible refine LeO.ite ?_ ?_)
      | (with_reducible refine LeO.bind ?_ (fun _ => ?_))
      | exact ih0 _ _ _ _ _ _
      | exact ih1 _ _ _ _ _ _ _
      | exact ih2 _ _ _ _ _ _ _ _ _ _ _ _
      | exact accountingref25_On.mono _ _ _ _ _
      | exact accountingref25_check.mono _ _ _ _ _
      | exact accountingref25_one.mono _ _ _ _ _ _ _ _ _
      | exact LeO.none _
      | refine LeO.ite ?_ ?_
      | refine LeO.bind ?_ (fun _ => ?_)
    · intro y0 y1 y2 y3 y4 y5 y6
      unfold accountingref25_Of.l1
      repeat' first
      | (with_reducible exact ih0 _ _ _ _ _ _)
      | (with_reducible exact ih1 _ _ _ _ _ _ _)
      | (with_reducible exact ih2 _ _ _ _ _ _ _ _ _ _ _ _)
      | (with_reducible exact accountingref25_On.mono _ _ _ _ _)
      | (with_reducible exact accountingref25_check.mono _ _ _ _ _)
      | (with_reducible exact accountingref25_one.mono _ _ _ _ _ _ _ _ _)
      | (with_reducible exact LeO.refl _)
      | (with_reducible exact LeO.none _)
      | (with_reducible refine LeO.ite ?_ ?_)
      | (with_reducible refine LeO.bind ?_ (fun _ => ?_))
      | exact ih0 _ _ _ _ _ _
      | exact ih1 _ _ _ _ _ _ _
      | exact ih2 _ _ _ _ _ _ _ _ _ _ _ _
      | exact accountingref25_On.mono _ _ _ _ _
      | exact accountingref25_check.mono _ _ _ _ _
      | exact accountingref25_one.mono _ _ _ _ _ _ _ _ _
      | exact LeO.none _
      | refine LeO.ite ?_ ?_
      | refine LeO.bind ?_ (fun _ => ?_)
    · intro y0 y1 y2 y3 y4 y5 y6 y7 y8 y9 y10 y11
      unfold accountingref25_Of.l2
      repeat' first
      | (with_reducible exact ih0 _ _ _ _ _ _)
      | (with_reducible exact ih1 _ _ _ _ _ _ _)
      | (with_reducible exact ih2 _ _ _ _ _ _ _ _ _ _ _ _)
      | (with_reducible exact accountingref25_On.mono _ _ _ _ _)
      | (with_reducible exact accountingref25_check.mono _ _ _ _ _)
      | (with_reducible exact accountingref25_one.mono _ _ _ _ _ _ _ _ _)
      | (with_reducible exact LeO.refl _)
      | (with_reducible exact LeO.none _)
      | (with_reducible refine LeO.ite ?_ ?_)
      | (with_reducible refine LeO.bind ?_ (fun _ => ?_))
      | exact ih0 _ _ _ _ _ _
      | exact ih1 _ _ _ _ _ _ _
      | exact ih2 _ _ _ _ _ _ _ _ _ _ _ _
      | exact accountingref25_On.mono _ _ _ _ _
      | exact accountingref25_check.mono _ _ _ _ _
      | exact accountingref25_one.mono _ _ _ _ _ _ _ _ _
      | exact LeO.none _
      | refine LeO.ite ?_ ?_
      | refine LeO.bind ?_ (fun _ => ?_)
theorem accountingref25_Of.mono : ∀ a0 a1 a2 a3 k, LeO (accountingref25_Of.f k a0 a1 a2 a3) (accountingref25_Of.f (k + 1) a0 a1 a2 a3) := by
 intro a0 a1 a2 a3 k; obtain ⟨ih0, ih1, ih2⟩ := accountingref25_Of.mono_l k
 unfold accountingref25_Of.f
 repeat' first
   | (with_reducible exact ih0 _ _ _ _ _ _)
   | (with_reducible exact ih1 _ _ _ _ _ _ _)
   | (with_reducible exact ih2 _ _ _ _ _ _ _ _ _ _ _ _)
   | (with_reducible exact accountingref25_On.mono _ _ _ _ _)
   | (with_reducible exact accountingref25_check.mono _ _ _ _ _)
   | (with_reducible exact accountingref25_one.mono _ _ _ _ _ _ _ _ _)
   | (with_reducible exact LeO.refl _)
   | (with_reducible exact LeO.none _)
   | (with_reducible refine LeO.ite ?_ ?_)
   | (with_reducible refine LeO.bind ?_ (fun _ => ?_))
   | exact ih0 _ _ _ _ _ _
   | exact ih1 _ _ _ _ _ _ _
   | exact ih2 _ _ _ _ _ _ _ _ _ _ _ _
   | exact accountingref25_On.mono _ _ _ _ _
   | exact accountingref25_check.mono _ _ _ _ _
   | exact accountingref25_one.mono _ _ _ _ _ _ _ _ _
   | exact LeO.none _
   | refine LeO.ite ?_ ?_
   | refine LeO.bind ?_ (fun _ => ?_)
def accountingref25_Of.T18 : Bool × List (List Nat × List Nat) := (true, [([], []), ([], []), ([0, 1], [0, 1]), ([2], [2]), ([3], [3]), ([], []), ([], []), ([5, 6], [5, 6]), ([7], [7]), ([8], [8]), ([4, 9], [4, 9])])
def accountingref25_Of.B18 : List Nat := [0, 0, 3, 7, 15, 0, 0, 96, 224, 480, 1023]
theorem accountingref25_Of.tab18 : rtab .any (opsOf Try.f19 18) = accountingref25_Of.T18 := by kernel_rfl
theorem accountingref25_Of.bits18 : waitsOk accountingref25_Of.T18.2 accountingref25_Of.B18 = true := by kernel_rfl
def accountingref25_Of.T19 : Bool × List (List Nat × List Nat) := (true, [([], []), ([], []), ([0, 1], [0, 1]), ([2], [2]), ([], []), ([], []), ([4, 5], [4, 5]), ([6], [6]), ([], []), ([], []), ([3, 7, 8, 9], [3, 7, 8, 9]), ([10], [10]), ([11], [11]), ([11], [11]), ([12, 10, 0, 1, 2, 3, 4, 5, 6, 7, 8, 9, 10, 11, 12], [12]), ([13, 14, 0, 1, 2, 3, 4, 5, 6, 7, 8, 9, 10, 11, 12, 13, 14], [13])])
def accountingref25_Of.B19 : List Nat := [0, 0, 3, 7, 0, 0, 48, 112, 0, 0, 1023, 2047, 4095, 4095, 8191, 32767]
theorem accountingref25_Of.tab19 : rtab .any (opsOf Try.f19 19) = accountingref25_Of.T19 := by kernel_rfl
theorem accountingref25_Of.bits19 : waitsOk accountingref25_Of.T19.2 accountingref25_Of.B19 = true := by kernel_rfl
def accountingref25_Of.T25 : Bool × List (List Nat × List Nat) := (true, [([], []), ([0], [0]), ([], []), ([], []), ([2, 3], [2, 3]), ([4], [4]), ([5], [5]), ([], []), ([1, 6, 7], [1, 6, 7]), ([8], [8]), ([9], [9]), ([9], [9]), ([0, 1, 2, 3, 4, 5, 6, 7, 8, 9, 10], []), ([12, 10, 8, 0, 1, 2, 3, 4, 5, 6, 7, 8, 9, 10], [10, 12])])
def accountingref25_Of.B25 : List Nat := [0, 1, 0, 0, 12, 28, 60, 0, 255, 511, 1023, 1023, 2047, 6143]
theorem accountingref25_Of.tab25 : rtab .any (opsOf Try.f19 25) = accountingref25_Of.T25 := by kernel_rfl
theorem accountingref25_Of.bits25 : waitsOk accountingref25_Of.T25.2 accountingref25_Of.B25 = true := by kernel_rfl
set_option maxHeartbeats 8000000 in
set_option maxRecDepth 100000 in
theorem accountingref25_Of.calls (k : Nat) (A0 : Option Addr) (c0 : Nat) (l0 : List (S49)) (A1 : Option Addr) (c1 : Nat) (l1 : List (S59)) (a2 : Int) (a3 : Int) (r1 : List Int) (r2 : List (S51)) (r3 : Int) (w : World) (hr0 : Kd.C k49 w A0 l0.length l0) (hc0 : l0.length ≤ c0) (hr1 : Kd.C k59 w A1 l1.length l1) (hc1 : l1.length ≤ c1) (h : accountingref25_Of.f k l0 l1 a2 a3 = some (r1, r2, r3)) :
    Calls Try.prog 19 #[.slice A0 l0.length c0, .slice A1 l1.length c1, .int .i64 a2, .int .i64 a3] w fun e w' => ∃ v0_ v1_ : Value, e = .returned (.tuple #[v0_, v1_, .int .i64 r3]) ∧ Kd.R (Kd.int .i64) 3 w' w.heap.size (fun _ => True) v0_ r1 ∧ Kd.R k51 51 w' w.heap.size (fun _ => True) v1_ r2 ∧ Below w.heap.size w w' := by
 have hu3 := Try.underlying3; have hu9 := Try.underlying9; have hu51 := Try.underlying51; have hu49 := Try.underlying49; have hu59 := Try.underlying59; have hu23 := Try.underlying23; have HR0 := Aside0.mk hr0; have HC0 := Aside0.mk hc0; clear hr0 hc0; have HR1 := Aside0.mk hr1; have HC1 := Aside0.mk hc1; clear hr1 hc1; have HB := Aside0.mk (Below.refl w.heap.size w); have H : ((accountingref25_check.f k l0 l1 a2 a3).bind fun t101 => (if t101 = 0 then (accountingref25_Of.l0 k l0 l1 a2 a3 ([] : List Int) 0) else (some (([] : List Int), ([] : List (S51)), t101)))) = some (r1, r2, r3) := h; clear h; replace H := Option.bind_eq_some_iff.mp H; obtain ⟨t101, A50, H⟩ := H; replace H : (if t101 = 0 then (accountingref25_Of.l0 k l0 l1 a2 a3 ([] : List Int) 0) else (some (([] : List Int), ([] : List (S51)), t101))) = some (r1, r2, r3) := H; have A5 := Aside0.mk A50; clear A50
 by_cases c6 : t101 = 0
 ·rw [if_pos c6] at H; have c6b0 : (t101 == 0) = true := beq_iff_eq.mpr c6; have c6b1 : (t101 != 0) = false := bne_eq_false_iff_eq.mpr c6; clear c6; have H' := Aside0.mk H; clear H; go_enter Try.func19, Try.ntmps19
  go_wp2_with (first | ((with_reducible refine gate_callee (f := 35) rfl ?_); refine goesL_ (some 25) rfl rfl Try.func35 (by kernel_rfl) rfl #[.slice A0 l0.length c0, .slice A1 l1.length c1, .int .i64 a2, .int .i64 a3] rfl prr1_2 ?_; (with_reducible refine (accountingref25_check.calls k _ _ l0 _ _ l1 a2 a3 t101 _ ?side1 ?side2 ?side3 ?side4 A5.out).mono ?_); (case side1 => repeat (first | exact HR0.out | (with_reducible refine Kd.C_alloc ?_ _) | (with_reducible refine Kd.C_drewN ?_ _) | (with_reducible refine Kd.C_drew ?_))); (case side2 => exact HC0.out); (case side3 => repeat (first | exact HR1.out | (with_reducible refine Kd.C_alloc ?_ _) | (with_reducible refine Kd.C_drewN ?_ _) | (with_reducible refine Kd.C_drew ?_))); (case side4 => exact HC1.out); rintro e w7 ⟨rfl, hb⟩; refine ⟨_, rfl, ?_⟩; have n0_ := Aside0.mk (below_step prr1_4 hb); clear HB; have HB := n0_; clear n0_; (try clear hb); (try clear hb2); (try clear hk); (try clear hi)))
  (try simp only [Act.put, List.setIfInBounds_toArray, List.set_cons_zero, List.set_cons_succ])
  go_loopg [12, 13] k (fun kq v12 v13 w' => ∃ (x12_1 : List Int) (x13_1 : Int), v13 = .int .i64 x13_1 ∧ Aside0 (accountingref25_Of.l0 kq l0 l1 a2 a3 x12_1 x13_1 = some (r1, r2, r3)) ∧ Aside0 (kq ≤ k) ∧ Aside0 (Kd.R (Kd.int .i64) 3 w' w.heap.size (fun _ => True) v12 x12_1) ∧ Aside0 (Below w.heap.size w w'))
  case atStart => exact ⟨(([] : List Int)), (0), prr1_0, H', ⟨Nat.le_refl _⟩, ⟨pof1_2⟩, ⟨prr1_4⟩⟩
  case round =>
   clear H'; (try clear c1); (try clear p2); (try clear c3); (try clear c6); (try clear c6b0); (try clear c6b1); obtain ⟨x12_1, x13_1, rfl, HA, HK1, HO_12, HB⟩ := hrel
   cases gk with
   | zero => exact absurd HA.out (by simp [accountingref25_Of.l0])
   | succ k1 =>
    have H := HA.out; clear HA; simp only [accountingref25_Of.l0] at H
    by_cases c8 : x13_1 < (l0.length : Int)
    ·rw [if_pos c8] at H; have c8b0 : decide (x13_1 < (l0.length : Int)) = true := decide_eq_true c8; clear c8
     by_cases c9 : 0 ≤ x13_1
     ·rw [if_pos c9] at H; have c9b0 : decide (0 ≤ x13_1) = true := decide_eq_true c9; clear c9
      by_cases c10 : x12_1.length < 17592186044416
      ·rw [if_pos c10] at H; have LMc10 := Aside0.mk c10; clear c10; obtain ⟨y103, hy103⟩ : ∃ y_ : List Int, y_ = (x12_1 ++ [(rd_T49 l0 x13_1).f0]) := ⟨_, rfl⟩; replace H : (accountingref25_Of.l0 k1 l0 l1 a2 a3 y103 (wrap64 (x13_1 + 1))) = some (r1, r2, r3) := by first | (rw [hy103]; with_reducible exact H) | (have H2_ := (Option.bind_some _ _).symm.trans H; rw [hy103]; with_reducible exact H2_) | (have H2_ := (Option.bind_some _ _).symm.trans H; with_reducible exact H2_) | with_reducible exact H | (rw [hy103]; exact H) | exact H
       have Ny103 := Aside0.mk hy103; clear hy103; have H' := Aside0.mk H; clear H; have p102 : 0 ≤ (x13_1 : Int) := of_decide_eq_true pcc1_0; have q102 : x13_1 < (l0.length : Int) := of_decide_eq_true pcc1_0; obtain ⟨ad102, e102, hx102_0, hx102_1⟩ := at_T49 HR0.out x13_1 p102 q102
       cases e102
       replace hx102_0 := (HB.out.cell (World.block_lt_of_cell? w _ hx102_0)).trans hx102_0; replace hx102_1 := (HB.out.cell (World.block_lt_of_cell? w _ hx102_1)).trans hx102_1; replace p102 := eq_true p102; replace q102 := eq_true q102
       go_wp2_with (first | ((with_reducible refine gate_builtin (b := .append) (xs := #[.tmp 35, .tmp 41]) rfl ?_); at_builtin; refine Kd.R_append (Kd.int .i64) (w0 := w) w.heap.size rfl (.tmp 35) (.tmp 41) 39 3 (.int .i64 0) 8 rfl Try.underlying39 info3 rfl (by decide) (by omega) u12 x12_1 ((rd_T49 l0 x13_1).f0) [.int .i64 ((rd_T49 l0 x13_1).f0)] (fun _ => True) (fun _ => False) rfl rfl ?aP (fun _ hk => hk.elim) ?aF ?aO ?aB ?aS ?aL ?_; (case aP => exact rfl); (case aB => exact prr1_4); (case aF => exact (fun _ _ => trivial)); (case aO => exact pof1_3); (case aS => exact (below_size prr1_4)); (case aL => have := LMc10.out; omega); intro v104 w11 ho hb hg hat; rw [← Ny103.out] at ho; have n0_ := Aside0.mk (hb); have n1_ := Aside0.mk (ho); clear HB; clear HO_12; have HB := n0_; have HO105 := n1_; clear n0_ n1_; clear ho hb hg hat))
       go_roundg k1
       case measure => have := HK1.out; omega
       case rel => exact ⟨(y103), (wrap64 (x13_1 + 1)), prr1_0, H', ⟨by have := HK1.out; omega⟩, ⟨by (with_reducible repeat (first | apply Kd.R_alloc | apply Kd.R_drewN | apply Kd.R_drew)); exact HO105.out⟩, ⟨prr1_4⟩⟩
      ·rw [if_neg c10] at H; exact absurd H (by simp)
     ·rw [if_neg c9] at H; exact absurd H (by simp)
    ·rw [if_neg c8] at H; have c8b0 : decide (x13_1 < (l0.length : Int)) = false := decide_eq_false c8; clear c8; have H' := Aside0.mk H; clear H
     go_wp2
     go_loopg [14, 15] k1 (fun kq v14 v15 w' => ∃ (x12_2 : List Int) (x14_2 : List (S51)) (x15_2 : Int), v15 = .int .i64 x15_2 ∧ Aside0 (accountingref25_Of.l1 kq l0 l1 a2 a3 x12_2 x14_2 x15_2 = some (r1, r2, r3)) ∧ Aside0 (kq ≤ k1) ∧ Aside0 (Kd.R (Kd.int .i64) 3 w' w.heap.size (fun _ => True) u12 x12_2) ∧ Aside0 (Kd.R k51 51 w' w.heap.size (fun _ => True) v14 x14_2) ∧ Aside0 (Below w.heap.size w w'))
     case atStart => exact ⟨(x12_1), (([] : List (S51))), (0), prr1_0, H', ⟨Nat.le_refl _⟩, ⟨pof1_3⟩, ⟨pof1_2⟩, ⟨prr1_4⟩⟩
     case round =>
      clear H'; (try clear c1); (try clear p1); (try clear q1); (try clear hx1); (try clear p2); (try clear c3); (try clear c6); (try clear c6b0); (try clear c6b1); (try clear p6); (try clear c8); (try clear c8b0); (try clear c9); (try clear c9b0); (try clear c10); (try clear p10); (try clear q10); (try clear hx10); (try clear hx102_0); (try clear hx102_1); (try clear p102); (try clear p2); (try clear q102); obtain ⟨x12_2, x14_2, x15_2, rfl, HA, HK2, HO_12, HO_14, HB⟩ := hrel
      cases gk with
      | zero => exact absurd HA.out (by simp [accountingref25_Of.l1])
      | succ k2 =>
       have H := HA.out; clear HA; simp only [accountingref25_Of.l1] at H
       by_cases c12 : x15_2 < (l1.length : Int)
       ·rw [if_pos c12] at H; have c12b0 : decide (x15_2 < (l1.length : Int)) = true := decide_eq_true c12; clear c12
        by_cases c13 : 0 ≤ x15_2
        ·rw [if_pos c13] at H; have c13b0 : decide (0 ≤ x15_2) = true := decide_eq_true c13; clear c13; have H' := Aside0.mk H; clear H; have p106 : 0 ≤ (x15_2 : Int) := of_decide_eq_true pcc1_0; have q106 : x15_2 < (l1.length : Int) := of_decide_eq_true pcc1_0; obtain ⟨ad106, e106, hx106_0, hx106_1, hx106_2, hx106_3⟩ := at_T59 HR1.out x15_2 p106 q106
         cases e106
         replace hx106_0 := (HB.out.cell (World.block_lt_of_cell? w _ hx106_0)).trans hx106_0; replace hx106_1 := (HB.out.cell (World.block_lt_of_cell? w _ hx106_1)).trans hx106_1; replace hx106_2 := (HB.out.cell (World.block_lt_of_cell? w _ hx106_2)).trans hx106_2; replace hx106_3 := (HB.out.cell (World.block_lt_of_cell? w _ hx106_3)).trans hx106_3; replace p106 := eq_true p106; replace q106 := eq_true q106
         go_wp2_with (first | ((with_reducible refine gate_dst (N := 16) rfl ?_); refine box_event ?hg (N := 16) ?hd (cs := #[.string (⟨#[]⟩ : ByteArray), .int .i64 0, .int .i64 0]) (t := 51) ?hr ?_; (case hd => rfl); (case hg => rfl); (case hr => first | (go_simp; done) | (go_simp; rfl)); intro gb107 hg w14 hbox hb; have n0_ := Aside0.mk (Kd.R_below pof1_3 hb); have n1_ := Aside0.mk (Kd.R_below (Kd.R_elderB pof1_4 gb107 (Nat.le_of_eq hg.symm)) hb); have n2_ := Aside0.mk (below_step prr1_4 hb); have n3_ := Aside0.mk (hbox); have n4_ := Aside0.mk ((prr1_5 : w.heap.size ≤ gb107)); have n5_ := Aside0.mk ((prr1_5 : w.heap.size ≤ gb107)); clear HO_12; clear HO_14; clear HB; have HO_12 := n0_; have HO_14 := n1_; have HB := n2_; have BK107 := n3_; have GW107 := n4_; have GE107 := n5_; clear n0_ n1_ n2_ n3_ n4_ n5_; clear hb hbox hg; have hcz15_0 : w14.cell? ⟨gb107, 0, none⟩ = some (.string (⟨#[]⟩ : ByteArray)) := (blk_cell BK107.out 0).trans rfl; have hcz15_1 : w14.cell? ⟨gb107, 1, none⟩ = some (.int .i64 0) := (blk_cell BK107.out 1).trans rfl; have hcz15_2 : w14.cell? ⟨gb107, 2, none⟩ = some (.int .i64 0) := (blk_cell BK107.out 2).trans rfl; have hfz15_0 := blk_frozen BK107.out 0; have hfz15_1 := blk_frozen BK107.out 1; have hfz15_2 := blk_frozen BK107.out 2))
         go_loopg [17, 18] k2 (fun kq v17 v18 w' => ∃ (x12_3 : List Int) (x17_3 : Bool) (x18_3 : Int) (x108001_3 : Int) (x108002_3 : Int), v17 = .bool x17_3 ∧ v18 = .int .i64 x18_3 ∧ Aside0 (accountingref25_Of.l2 kq l0 l1 a2 a3 x12_3 x14_2 x15_2 x17_3 x18_3 ((rd_T59 l1 x15_2).f0) x108001_3 x108002_3 = some (r1, r2, r3)) ∧ Aside0 (kq ≤ k2) ∧ Aside0 (Kd.R (Kd.int .i64) 3 w' w.heap.size (fun _ => True) u12 x12_3) ∧ Aside0 (Kd.R k51 51 w' w.heap.size (fun k_ => k_ ≠ gb107) u14 x14_2) ∧ Aside0 (w'.heap[gb107]? = some (.cells #[.string ((rd_T59 l1 x15_2).f0), .int .i64 x108001_3, .int .i64 x108002_3] 51 (0, 0))) ∧ Aside0 (Below w.heap.size w w'))
         case atStart => exact ⟨(x12_2), (false), (0), (0), (0), prr1_0, prr1_0, H', ⟨Nat.le_refl _⟩, ⟨by (with_reducible repeat (first | apply Kd.R_alloc | apply Kd.R_drewN | apply Kd.R_drew)); exact Kd.R_mono (Kd.R_far (p := ⟨gb107, 2, none⟩) (Kd.R_far (p := ⟨gb107, 1, none⟩) (Kd.R_far (p := ⟨gb107, 0, none⟩) (Kd.R_types HO_12.out BK107.out (by decide)) (fun _ hk => hk.2) (.string ((rd_T59 l1 x15_2).f0))) (fun _ hk => hk.2) (.int .i64 0)) (fun _ hk => hk.2) (.int .i64 0)) (fun _ hk => trivial)⟩, ⟨by (with_reducible repeat (first | apply Kd.R_alloc | apply Kd.R_drewN | apply Kd.R_drew)); exact Kd.R_mono (Kd.R_far (p := ⟨gb107, 2, none⟩) (Kd.R_far (p := ⟨gb107, 1, none⟩) (Kd.R_far (p := ⟨gb107, 0, none⟩) (Kd.R_mono HO_14.out (fun k_ hk => (⟨hk, hk.2⟩ : _ ∧ k_ ≠ gb107))) (fun _ hk => hk.2) (.string ((rd_T59 l1 x15_2).f0))) (fun _ hk => hk.2) (.int .i64 0)) (fun _ hk => hk.2) (.int .i64 0)) (fun _ hk => hk.1.2)⟩, ⟨by (with_reducible repeat (first | refine blk_drewN ?_ _ | refine blk_drew ?_ | refine blk_alloc ?_ _)); refine blk_put (cs := #[.string ((rd_T59 l1 x15_2).f0), .int .i64 0, .int .i64 0]) ?_ 2 _ rfl; (with_reducible repeat (first | refine blk_drewN ?_ _ | refine blk_drew ?_ | refine blk_alloc ?_ _)); refine blk_put (cs := #[.string ((rd_T59 l1 x15_2).f0), .int .i64 0, .int .i64 0]) ?_ 1 _ rfl; (with_reducible repeat (first | refine blk_drewN ?_ _ | refine blk_drew ?_ | refine blk_alloc ?_ _)); refine blk_put (cs := #[.string (⟨#[]⟩ : ByteArray), .int .i64 0, .int .i64 0]) ?_ 0 _ rfl; (with_reducible repeat (first | refine blk_drewN ?_ _ | refine blk_drew ?_ | refine blk_alloc ?_ _)); exact BK107.out⟩, ⟨pof1_5⟩⟩
         case round =>
          clear H'; (try clear c1); (try clear p1); (try clear q1); (try clear hx1); (try clear p2); (try clear c3); (try clear c6); (try clear c6b0); (try clear c6b1); (try clear p6); (try clear c8); (try clear c8b0); (try clear c9); (try clear c9b0); (try clear c10); (try clear p10); (try clear q10); (try clear hx10); (try clear c12); (try clear c12b0); (try clear c13); (try clear c13b0); (try clear hcz15_0); (try clear hcz15_1); (try clear hcz15_2); (try clear hfz15_0); (try clear hfz15_1); (try clear hfz15_2); (try clear hx102_0); (try clear hx102_1); (try clear hx106_0); (try clear hx106_1); (try clear hx106_2); (try clear hx106_3); (try clear p1); (try clear p10); (try clear p102); (try clear p106); (try clear p2); (try clear p6); (try clear q1); (try clear q10); (try clear q102); (try clear q106); obtain ⟨x12_3, x17_3, x18_3, x108001_3, x108002_3, rfl, rfl, HA, HK3, HO_12, HO_14, BK107, HB⟩ := hrel
          cases gk with
          | zero => exact absurd HA.out (by simp [accountingref25_Of.l2])
          | succ k3 =>
           have H := HA.out; clear HA; simp only [accountingref25_Of.l2] at H
           by_cases c16 : x18_3 < (l0.length : Int)
           ·rw [if_pos c16] at H; have c16b0 : decide (x18_3 < (l0.length : Int)) = true := decide_eq_true c16; clear c16
            by_cases c17 : 0 ≤ x18_3
            ·rw [if_pos c17] at H; have c17b0 : decide (0 ≤ x18_3) = true := decide_eq_true c17; clear c17
             by_cases c18 : 0 ≤ x15_2
             ·rw [if_pos c18] at H; have c18b0 : decide (0 ≤ x15_2) = true := decide_eq_true c18; clear c18
              by_cases c19 : x15_2 < (l1.length : Int)
              ·rw [if_pos c19] at H; have c19b0 : decide (x15_2 < (l1.length : Int)) = true := decide_eq_true c19; clear c19
               by_cases c20 : ((rd_T49 l0 x18_3).f1).toList = ((rd_T59 l1 x15_2).f0).toList
               ·rw [if_pos c20] at H; have c20b0 : (((rd_T49 l0 x18_3).f1).toList == ((rd_T59 l1 x15_2).f0).toList) = true := beq_iff_eq.mpr c20; have c20b1 : (((rd_T49 l0 x18_3).f1).toList != ((rd_T59 l1 x15_2).f0).toList) = false := bne_eq_false_iff_eq.mpr c20; clear c20; replace H := Option.bind_eq_some_iff.mp H; obtain ⟨⟨t112, t113⟩, A210, H⟩ := H; replace H : (if x18_3 < (x12_3.length : Int) then (accountingref25_Of.l2 k3 l0 l1 a2 a3 (x12_3.set (x18_3 : Int).toNat t112) x14_2 x15_2 true (wrap64 (x18_3 + 1)) ((rd_T59 l1 x15_2).f0) (wrap64 (x108001_3 + t112)) (wrap64 (x108002_3 + t113))) else (none)) = some (r1, r2, r3) := H; have A21 := Aside0.mk A210; clear A210
                by_cases c22 : x18_3 < (x12_3.length : Int)
                ·rw [if_pos c22] at H; have c22b0 : decide (x18_3 < (x12_3.length : Int)) = true := decide_eq_true c22; clear c22; obtain ⟨y114, hy114⟩ : ∃ y_ : List Int, y_ = (x12_3.set (x18_3 : Int).toNat t112) := ⟨_, rfl⟩; replace H : (accountingref25_Of.l2 k3 l0 l1 a2 a3 y114 x14_2 x15_2 true (wrap64 (x18_3 + 1)) ((rd_T59 l1 x15_2).f0) (wrap64 (x108001_3 + t112)) (wrap64 (x108002_3 + t113))) = some (r1, r2, r3) := by first | (rw [hy114]; with_reducible exact H) | (have H2_ := (Option.bind_some _ _).symm.trans H; rw [hy114]; with_reducible exact H2_) | (have H2_ := (Option.bind_some _ _).symm.trans H; with_reducible exact H2_) | with_reducible exact H | (rw [hy114]; exact H) | exact H
                 have Ny114 := Aside0.mk hy114; clear hy114; have H' := Aside0.mk H; clear H; (try go_wp2); have n0_ := Aside0.mk (Kd.R_drew HO_12.out); have n1_ := Aside0.mk (Kd.R_drew HO_14.out); have n2_ := Aside0.mk (blk_drew BK107.out); have n3_ := Aside0.mk (below_drew1 HB.out); clear HO_12; clear HO_14; clear BK107; clear HB; have HO_12 := n0_; have HO_14 := n1_; have BK107 := n2_; have HB := n3_; clear n0_ n1_ n2_ n3_; have p108 : 0 ≤ (x18_3 : Int) := of_decide_eq_true pcc1_0; have q108 : x18_3 < (l0.length : Int) := of_decide_eq_true pcc1_0; obtain ⟨ad108, e108, hx108_0, hx108_1⟩ := at_T49 HR0.out x18_3 p108 q108; have hw108_1 := hx108_1; have hw108_0 := hx108_0
                 cases e108
                 replace hx108_0 := (HB.out.cell (World.block_lt_of_cell? w _ hx108_0)).trans hx108_0; replace hx108_1 := (HB.out.cell (World.block_lt_of_cell? w _ hx108_1)).trans hx108_1; replace p108 := eq_true p108; replace q108 := eq_true q108; have p109 : 0 ≤ (x15_2 : Int) := of_decide_eq_true pcc1_0; have q109 : x15_2 < (l1.length : Int) := of_decide_eq_true pcc1_0; obtain ⟨ad109, e109, hx109_0, hx109_1, hx109_2, hx109_3⟩ := at_T59 HR1.out x15_2 p109 q109; have hw109_3 := hx109_3; have hw109_2 := hx109_2; have hw109_1 := hx109_1; have hw109_0 := hx109_0; obtain rfl : ad106 = ad109 := (by injection e109); replace hx109_0 := (HB.out.cell (World.block_lt_of_cell? w _ hx109_0)).trans hx109_0; replace hx109_1 := (HB.out.cell (World.block_lt_of_cell? w _ hx109_1)).trans hx109_1; replace hx109_2 := (HB.out.cell (World.block_lt_of_cell? w _ hx109_2)).trans hx109_2; replace hx109_3 := (HB.out.cell (World.block_lt_of_cell? w _ hx109_3)).trans hx109_3; replace p109 := eq_true p109; replace q109 := eq_true q109; refine start_ (n := 11) (S := fun w' => w'.cell? (ad108.add ((x18_3).toNat * 2)) = some (.int .i64 ((rd_T49 l0 x18_3).f0)) ∧ w'.cell? ⟨(ad108.add ((x18_3).toNat * 2)).block, (ad108.add ((x18_3).toNat * 2)).off + 1, none⟩ = some (.string ((rd_T49 l0 x18_3).f1)) ∧ w'.cell? (ad106.add ((x15_2).toNat * 4)) = some (.string ((rd_T59 l1 x15_2).f0)) ∧ w'.cell? ⟨(ad106.add ((x15_2).toNat * 4)).block, (ad106.add ((x15_2).toNat * 4)).off + 1, none⟩ = some (.string ((rd_T59 l1 x15_2).f1)) ∧ w'.cell? ⟨(ad106.add ((x15_2).toNat * 4)).block, (ad106.add ((x15_2).toNat * 4)).off + 2, none⟩ = some (.int .i64 ((rd_T59 l1 x15_2).f2.f0)) ∧ w'.cell? ⟨(ad106.add ((x15_2).toNat * 4)).block, (ad106.add ((x15_2).toNat * 4)).off + 3, none⟩ = some (.int .i64 ((rd_T59 l1 x15_2).f2.f1))) (ds := []) aof1_15 (by kernel_rfl) rfl rfl ⟨((HB.out.cell (World.block_lt_of_cell? w _ hw108_0)).trans hw108_0), ((HB.out.cell (World.block_lt_of_cell? w _ hw108_1)).trans hw108_1), ((HB.out.cell (World.block_lt_of_cell? w _ hw109_0)).trans hw109_0), ((HB.out.cell (World.block_lt_of_cell? w _ hw109_1)).trans hw109_1), ((HB.out.cell (World.block_lt_of_cell? w _ hw109_2)).trans hw109_2), ((HB.out.cell (World.block_lt_of_cell? w _ hw109_3)).trans hw109_3)⟩ (fun hHeld => ?_); refine with_tabW accountingref25_Of.tab18 accountingref25_Of.bits18 (fun HT_ HW_ => ?_); generalize wr.drew = w24 at HO_12 HO_14 BK107 HB hx108_0 hx108_1 hx109_0 hx109_1 hx109_2 hx109_3 hHeld ⊢; refine pure_ (i := 0) (N := some 61) (v := ?_) (a' := ?_) aof1_16 rfl rfl (any_of HT_.out (by kernel_rfl)) (fun _ _ _ h => h) (Or.inl ⟨by rfl, ?_⟩) ?_ ?_; rotate_left
                 ·intro w'; go_simp; (with_reducible rfl)
                 rotate_left
                 ·exact ccc2_0
                 refine pure_ (i := 1) (N := some 62) (v := ?_) (a' := ?_) aof1_17 rfl rfl (any_of HT_.out (by kernel_rfl)) (fun _ _ _ h => h) (Or.inl ⟨by rfl, ?_⟩) ?_ ?_; rotate_left
                 ·intro w'; go_simp; (with_reducible rfl)
                 rotate_left
                 ·exact ccc2_0
                 refine pure_ (i := 2) (N := some 63) (v := ?_) (a' := ?_) aof1_18 rfl rfl (any_of HT_.out (by kernel_rfl)) (fun _ _ _ h => h) (Or.inl ⟨by rfl, ?_⟩) ?_ ?_; rotate_left
                 ·intro w'; go_simp; (with_reducible rfl)
                 rotate_left
                 ·exact ccc2_0
                 refine pure_ (i := 3) (N := some 64) (v := ?_) (a' := ?_) aof1_19 rfl rfl (any_of HT_.out (by kernel_rfl)) (fun _ _ _ h => h) (Or.inl ⟨by rfl, ?_⟩) ?_ ?_; rotate_left
                 ·intro w'; go_simp; (with_reducible rfl)
                 rotate_left
                 ·exact ccc2_0
                 refine pure_ (i := 5) (N := some 66) (v := ?_) (a' := ?_) aof1_20 rfl rfl (any_of HT_.out (by kernel_rfl)) (fun _ _ _ h => h) (Or.inl ⟨by rfl, ?_⟩) ?_ ?_; rotate_left
                 ·intro w'; go_simp; (with_reducible rfl)
                 rotate_left
                 ·exact ccc2_0
                 refine pure_ (i := 6) (N := some 67) (v := ?_) (a' := ?_) aof1_21 rfl rfl (any_of HT_.out (by kernel_rfl)) (fun _ _ _ h => h) (Or.inl ⟨by rfl, ?_⟩) ?_ ?_; rotate_left
                 ·intro w'; go_simp; (with_reducible rfl)
                 rotate_left
                 ·exact ccc2_0
                 refine pure_ (i := 7) (N := some 68) (v := ?_) (a' := ?_) aof1_22 rfl rfl (any_of HT_.out (by kernel_rfl)) (fun _ _ _ h => h) (Or.inl ⟨by rfl, ?_⟩) ?_ ?_; rotate_left
                 ·intro w'; go_simp; (with_reducible rfl)
                 rotate_left
                 ·exact ccc2_0
                 refine pure_ (i := 8) (N := some 69) (v := ?_) (a' := ?_) aof1_23 rfl rfl (any_of HT_.out (by kernel_rfl)) (fun _ _ _ h => h) (Or.inl ⟨by rfl, ?_⟩) ?_ ?_; rotate_left
                 ·intro w'; go_simp; (with_reducible rfl)
                 rotate_left
                 ·exact ccc2_0
                 refine take_ (i := 4) (N := some 65) (v := ?_) (a' := ?_) aof1_24 rfl rfl (take_ofW HT_.out HW_.out (by kernel_rfl)) (fun _ _ _ h => h) (Or.inl ⟨by rfl, ?_⟩) hHeld ?_ ?_; rotate_left
                 ·rintro w' ⟨s0, s1, s2, s3, s4, s5⟩; go_simp; (with_reducible rfl)
                 rotate_left
                 ·exact ccc2_0
                 refine take_ (i := 9) (N := some 70) (v := ?_) (a' := ?_) aof1_25 rfl rfl (take_ofW HT_.out HW_.out (by kernel_rfl)) (fun _ _ _ h => h) (Or.inl ⟨by rfl, ?_⟩) hHeld ?_ ?_; rotate_left
                 ·rintro w' ⟨s0, s1, s2, s3, s4, s5⟩; go_simp; (with_reducible rfl)
                 rotate_left
                 ·exact ccc2_0
                 refine pure_ (i := 10) (N := some 71) (v := ?_) (a' := ?_) aof1_26 rfl rfl (any_of HT_.out (by kernel_rfl)) (fun _ _ _ h => h) (Or.inl ⟨by rfl, ?_⟩) ?_ ?_; rotate_left
                 ·intro w'; go_simp; (with_reducible rfl)
                 rotate_left
                 ·exact ccc2_0
                 refine done_ (done_of HT_.out (by kernel_rfl)) ?_; (try go_wp2); have n0_ := Aside0.mk (Kd.R_drew HO_12.out); have n1_ := Aside0.mk (Kd.R_drew HO_14.out); have n2_ := Aside0.mk (blk_drew BK107.out); have n3_ := Aside0.mk (below_drew1 HB.out); clear HO_12; clear HO_14; clear BK107; clear HB; have HO_12 := n0_; have HO_14 := n1_; have BK107 := n2_; have HB := n3_; clear n0_ n1_ n2_ n3_; have p110 : 0 ≤ (x18_3 : Int) := of_decide_eq_true pcc1_0; have q110 : x18_3 < (l0.length : Int) := of_decide_eq_true pcc1_0; obtain ⟨ad110, e110, hx110_0, hx110_1⟩ := at_T49 HR0.out x18_3 p110 q110; have hw110_1 := hx110_1; have hw110_0 := hx110_0; obtain rfl : ad108 = ad110 := (by injection e110); replace hx110_0 := (HB.out.cell (World.block_lt_of_cell? w _ hx110_0)).trans hx110_0; replace hx110_1 := (HB.out.cell (World.block_lt_of_cell? w _ hx110_1)).trans hx110_1; replace p110 := eq_true p110; replace q110 := eq_true q110; have p111 : 0 ≤ (x15_2 : Int) := of_decide_eq_true pcc1_0; have q111 : x15_2 < (l1.length : Int) := of_decide_eq_true pcc1_0; obtain ⟨ad111, e111, hx111_0, hx111_1, hx111_2, hx111_3⟩ := at_T59 HR1.out x15_2 p111 q111; have hw111_3 := hx111_3; have hw111_2 := hx111_2; have hw111_1 := hx111_1; have hw111_0 := hx111_0; obtain rfl : ad106 = ad111 := (by injection e111); replace hx111_0 := (HB.out.cell (World.block_lt_of_cell? w _ hx111_0)).trans hx111_0; replace hx111_1 := (HB.out.cell (World.block_lt_of_cell? w _ hx111_1)).trans hx111_1; replace hx111_2 := (HB.out.cell (World.block_lt_of_cell? w _ hx111_2)).trans hx111_2; replace hx111_3 := (HB.out.cell (World.block_lt_of_cell? w _ hx111_3)).trans hx111_3; replace p111 := eq_true p111; replace q111 := eq_true q111; refine start_ (n := 16) (S := fun w' => w'.cell? (ad108.add ((x18_3).toNat * 2)) = some (.int .i64 ((rd_T49 l0 x18_3).f0)) ∧ w'.cell? ⟨(ad108.add ((x18_3).toNat * 2)).block, (ad108.add ((x18_3).toNat * 2)).off + 1, none⟩ = some (.string ((rd_T49 l0 x18_3).f1)) ∧ w'.cell? (ad106.add ((x15_2).toNat * 4)) = some (.string ((rd_T59 l1 x15_2).f0)) ∧ w'.cell? ⟨(ad106.add ((x15_2).toNat * 4)).block, (ad106.add ((x15_2).toNat * 4)).off + 1, none⟩ = some (.string ((rd_T59 l1 x15_2).f1)) ∧ w'.cell? ⟨(ad106.add ((x15_2).toNat * 4)).block, (ad106.add ((x15_2).toNat * 4)).off + 2, none⟩ = some (.int .i64 ((rd_T59 l1 x15_2).f2.f0)) ∧ w'.cell? ⟨(ad106.add ((x15_2).toNat * 4)).block, (ad106.add ((x15_2).toNat * 4)).off + 3, none⟩ = some (.int .i64 ((rd_T59 l1 x15_2).f2.f1))) (ds := []) #[false, false, false, false, false, false, false, false, false, false, false, false, false, false, false, false] (by kernel_rfl) rfl rfl ⟨((HB.out.cell (World.block_lt_of_cell? w _ hw110_0)).trans hw110_0), ((HB.out.cell (World.block_lt_of_cell? w _ hw110_1)).trans hw110_1), ((HB.out.cell (World.block_lt_of_cell? w _ hw111_0)).trans hw111_0), ((HB.out.cell (World.block_lt_of_cell? w _ hw111_1)).trans hw111_1), ((HB.out.cell (World.block_lt_of_cell? w _ hw111_2)).trans hw111_2), ((HB.out.cell (World.block_lt_of_cell? w _ hw111_3)).trans hw111_3)⟩ (fun hHeld => ?_); refine with_tabW accountingref25_Of.tab19 accountingref25_Of.bits19 (fun HT_ HW_ => ?_); generalize w24.drew = w25 at HO_12 HO_14 BK107 HB hx110_0 hx110_1 hx111_0 hx111_1 hx111_2 hx111_3 hHeld ⊢; refine pure_ (i := 0) (N := some 73) (v := ?_) (a' := ?_) #[true, false, false, false, false, false, false, false, false, false, false, false, false, false, false, false] rfl rfl (any_of HT_.out (by kernel_rfl)) (fun _ _ _ h => h) (Or.inl ⟨by rfl, ?_⟩) ?_ ?_; rotate_left
                 ·intro w'; go_simp; (with_reducible rfl)
                 rotate_left
                 ·exact ccc2_0
                 refine pure_ (i := 1) (N := some 74) (v := ?_) (a' := ?_) #[true, true, false, false, false, false, false, false, false, false, false, false, false, false, false, false] rfl rfl (any_of HT_.out (by kernel_rfl)) (fun _ _ _ h => h) (Or.inl ⟨by rfl, ?_⟩) ?_ ?_; rotate_left
                 ·intro w'; go_simp; (with_reducible rfl)
                 rotate_left
                 ·exact ccc2_0
                 refine pure_ (i := 2) (N := some 75) (v := ?_) (a' := ?_) #[true, true, true, false, false, false, false, false, false, false, false, false, false, false, false, false] rfl rfl (any_of HT_.out (by kernel_rfl)) (fun _ _ _ h => h) (Or.inl ⟨by rfl, ?_⟩) ?_ ?_; rotate_left
                 ·intro w'; go_simp; (with_reducible rfl)
                 rotate_left
                 ·exact ccc2_0
                 refine pure_ (i := 4) (N := some 77) (v := ?_) (a' := ?_) #[true, true, true, false, true, false, false, false, false, false, false, false, false, false, false, false] rfl rfl (any_of HT_.out (by kernel_rfl)) (fun _ _ _ h => h) (Or.inl ⟨by rfl, ?_⟩) ?_ ?_; rotate_left
                 ·intro w'; go_simp; (with_reducible rfl)
                 rotate_left
                 ·exact ccc2_0
                 refine pure_ (i := 5) (N := some 78) (v := ?_) (a' := ?_) #[true, true, true, false, true, true, false, false, false, false, false, false, false, false, false, false] rfl rfl (any_of HT_.out (by kernel_rfl)) (fun _ _ _ h => h) (Or.inl ⟨by rfl, ?_⟩) ?_ ?_; rotate_left
                 ·intro w'; go_simp; (with_reducible rfl)
                 rotate_left
                 ·exact ccc2_0
                 refine pure_ (i := 6) (N := some 79) (v := ?_) (a' := ?_) #[true, true, true, false, true, true, true, false, false, false, false, false, false, false, false, false] rfl rfl (any_of HT_.out (by kernel_rfl)) (fun _ _ _ h => h) (Or.inl ⟨by rfl, ?_⟩) ?_ ?_; rotate_left
                 ·intro w'; go_simp; (with_reducible rfl)
                 rotate_left
                 ·exact ccc2_0
                 refine pure_ (i := 8) (N := some 81) (v := ?_) (a' := ?_) #[true, true, true, false, true, true, true, false, true, false, false, false, false, false, false, false] rfl rfl (any_of HT_.out (by kernel_rfl)) (fun _ _ _ h => h) (Or.inl ⟨by rfl, ?_⟩) ?_ ?_; rotate_left
                 ·intro w'; go_simp; (with_reducible rfl)
                 rotate_left
                 ·exact ccc2_0
                 refine pure_ (i := 9) (N := some 82) (v := ?_) (a' := ?_) #[true, true, true, false, true, true, true, false, true, true, false, false, false, false, false, false] rfl rfl (any_of HT_.out (by kernel_rfl)) (fun _ _ _ h => h) (Or.inl ⟨by rfl, ?_⟩) ?_ ?_; rotate_left
                 ·intro w'; go_simp; (with_reducible rfl)
                 rotate_left
                 ·exact ccc2_0
                 refine take_ (i := 3) (N := some 76) (v := ?_) (a' := ?_) #[true, true, true, true, true, true, true, false, true, true, false, false, false, false, false, false] rfl rfl (take_ofW HT_.out HW_.out (by kernel_rfl)) (fun _ _ _ h => h) (Or.inl ⟨by rfl, ?_⟩) hHeld ?_ ?_; rotate_left
                 ·rintro w' ⟨s0, s1, s2, s3, s4, s5⟩; go_simp; (with_reducible rfl)
                 rotate_left
                 ·exact ccc2_0
                 refine take_ (i := 7) (N := some 80) (v := ?_) (a' := ?_) #[true, true, true, true, true, true, true, true, true, true, false, false, false, false, false, false] rfl rfl (take_ofW HT_.out HW_.out (by kernel_rfl)) (fun _ _ _ h => h) (Or.inl ⟨by rfl, ?_⟩) hHeld ?_ ?_; rotate_left
                 ·rintro w' ⟨s0, s1, s2, s3, s4, s5⟩; go_simp; (with_reducible rfl)
                 rotate_left
                 ·exact ccc2_0
                 refine one_ (i := 10) (N := some 83) #[true, true, true, true, true, true, true, true, true, true, true, false, false, false, false, false] rfl rfl (one_of HT_.out (by kernel_rfl)) (by decide) (fun K hK => ?_); refine goes_ Try.func36 (by kernel_rfl) rfl #[.agg #[.int .i64 ((rd_T49 l0 x18_3).f0), .string ((rd_T49 l0 x18_3).f1)], .agg #[.string ((rd_T59 l1 x15_2).f0), .string ((rd_T59 l1 x15_2).f1), .int .i64 ((rd_T59 l1 x15_2).f2.f0), .int .i64 ((rd_T59 l1 x15_2).f2.f1)], .int .i64 a2, .int .i64 a3] (by rfl) rfl rfl prr1_2 ?_; (with_reducible refine (accountingref25_one.calls k3 ((rd_T49 l0 x18_3).f0) ((rd_T49 l0 x18_3).f1) ((rd_T59 l1 x15_2).f0) ((rd_T59 l1 x15_2).f1) ((rd_T59 l1 x15_2).f2.f0) ((rd_T59 l1 x15_2).f2.f1) a2 a3 t112 t113 _ A21.out).mono ?_); rintro e w26 ⟨rfl, hb⟩; refine ⟨_, rfl, ?_⟩; have n0_ := Aside0.mk (Kd.R_below pof1_3 hb); have n1_ := Aside0.mk (Kd.R_below pof1_4 hb); have n2_ := Aside0.mk (blk_below (g := gb107) (o := .cells #[.string ((rd_T59 l1 x15_2).f0), .int .i64 x108001_3, .int .i64 x108002_3] 51 (0, 0)) pof1_6 hb); have n3_ := Aside0.mk (below_step pof1_5 hb); clear HO_12; clear HO_14; clear BK107; clear HB; have HO_12 := n0_; have HO_14 := n1_; have BK107 := n2_; have HB := n3_; clear n0_ n1_ n2_ n3_; (try clear hb); (try clear hb2); (try clear hk); (try clear hi); refine hK.out _ _ ⟨((HB.out.cell (World.block_lt_of_cell? w _ hw110_0)).trans hw110_0), ((HB.out.cell (World.block_lt_of_cell? w _ hw110_1)).trans hw110_1), ((HB.out.cell (World.block_lt_of_cell? w _ hw111_0)).trans hw111_0), ((HB.out.cell (World.block_lt_of_cell? w _ hw111_1)).trans hw111_1), ((HB.out.cell (World.block_lt_of_cell? w _ hw111_2)).trans hw111_2), ((HB.out.cell (World.block_lt_of_cell? w _ hw111_3)).trans hw111_3)⟩ (fun hHeld => ?_); clear hK K; refine norm_ (a' := ?_) ?_ ?_; rotate_left
                 ·show Act.put _ (some 83) _ = _; simp only [Act.put, List.setIfInBounds_toArray, List.set_cons_zero, List.set_cons_succ, i64_w, i32_w]
                  rfl
                 refine pure_ (i := 11) (N := some 72) (v := ?_) (a' := ?_) #[true, true, true, true, true, true, true, true, true, true, true, true, false, false, false, false] rfl rfl (any_of HT_.out (by kernel_rfl)) (fun _ _ _ h => h) (Or.inl ⟨by rfl, ?_⟩) ?_ ?_; rotate_left
                 ·intro w'; go_simp; (with_reducible rfl)
                 rotate_left
                 ·exact ccc2_0
                 refine pure_ (i := 12) (N := some 84) (v := ?_) (a' := ?_) #[true, true, true, true, true, true, true, true, true, true, true, true, true, false, false, false] rfl rfl (any_of HT_.out (by kernel_rfl)) (fun _ _ _ h => h) (Or.inl ⟨by rfl, ?_⟩) ?_ ?_; rotate_left
                 ·intro w'; go_simp; (with_reducible rfl)
                 rotate_left
                 ·exact ccc2_0
                 refine pure_ (i := 13) (N := some 85) (v := ?_) (a' := ?_) #[true, true, true, true, true, true, true, true, true, true, true, true, true, true, false, false] rfl rfl (any_of HT_.out (by kernel_rfl)) (fun _ _ _ h => h) (Or.inl ⟨by rfl, ?_⟩) ?_ ?_; rotate_left
                 ·intro w'; go_simp; (with_reducible rfl)
                 rotate_left
                 ·exact ccc2_0
                 refine pure_ (i := 14) (N := some 19) (v := ?_) (a' := ?_) #[true, true, true, true, true, true, true, true, true, true, true, true, true, true, true, false] rfl rfl (any_of HT_.out (by kernel_rfl)) (fun _ _ _ h => h) (Or.inl ⟨by rfl, ?_⟩) ?_ ?_; rotate_left
                 ·intro w'; go_simp; (with_reducible rfl)
                 rotate_left
                 ·exact ccc2_0
                 refine pure_ (i := 15) (N := some 20) (v := ?_) (a' := ?_) #[true, true, true, true, true, true, true, true, true, true, true, true, true, true, true, true] rfl rfl (any_of HT_.out (by kernel_rfl)) (fun _ _ _ h => h) (Or.inl ⟨by rfl, ?_⟩) ?_ ?_; rotate_left
                 ·intro w'; go_simp; (with_reducible rfl)
                 rotate_left
                 ·exact ccc2_0
                 refine done_ (done_of HT_.out (by kernel_rfl)) ?_; have p23 : 0 ≤ (x18_3 : Int) := of_decide_eq_true pcc1_0; have q23 : (x18_3 : Int) < ((x12_3.length : Int) : Int) := of_decide_eq_true pcc1_0; obtain ⟨go23, co23, eo23, gb23, gl23, cl23, HG23⟩ := Kd.R_form HO_12.out (by omega); (first | cases eo23 | (injection eo23 with ea_ en_ ec_; (first | subst ea_ | (injection ea_ with ea_; subst ea_)); subst ec_; clear en_)); have GB23 := Aside0.mk gb23; have GG23 := Aside0.mk HG23; clear gb23 gl23 HG23; obtain ⟨hx23_0, hf23_0⟩ := Kd.R_celln 0 HO_12.out (x18_3 : Int) p23 q23; replace p23 := eq_true p23; replace q23 := eq_true q23; obtain ⟨hy27_, hz27_⟩ := Kd.R_celln 0 HO_12.out (x18_3 : Int) (of_decide_eq_true pcc1_0) (of_decide_eq_true pcc1_0); have HP27 := Kd.R_putg HO_12.out (x18_3 : Int) t112; (try go_wp2_with (first | ((with_reducible refine gate_store (t := 3) (p := 89) rfl ?_); refine store_event (t := 3) (p := 89) (v := ?vo_w28) (w1 := (w26.setCell ⟨go23, (x18_3 : Int).toNat, none⟩ (.int .i64 t112))) ?hg ?ho ?hn ?hr ?_; (case ho => rfl); (case hg => rfl); (case hn => rfl); (case hr => first | (go_simp; done) | (go_simp; rfl)); intro w28 hw; have hg : w26.grownBy w28 (some go23) := (by rw [hw]; exact HP27.2); have hp_ : Kd.R (Kd.int .i64) 3 w28 w.heap.size (fun _ => True) (.slice (some ⟨go23, 0, none⟩) x12_3.length co23) y114 := (by rw [hw, Ny114.out]; exact HP27.1); clear HP27; have n0_ := Aside0.mk (hp_); have n1_ := Aside0.mk (Kd.R_over' (v := (.slice (some ⟨go23, 0, none⟩) x12_3.length co23)) pof1_4 (Kd.R_typed HO_12.out) (by decide) hg); have n2_ := Aside0.mk (blk_grown (g := gb107) (o := .cells #[.string ((rd_T59 l1 x15_2).f0), .int .i64 x108001_3, .int .i64 x108002_3] 51 (0, 0)) pof1_6 hg (Kd.R_ne HO_12.out BK107.out (by decide))); have n3_ := Aside0.mk ((by rw [hw]; exact below_set (HB.out) GB23.out : Below w.heap.size w w28)); clear HO_12; clear HO_14; clear BK107; clear HB; have HO_12 := n0_; have HO_14 := n1_; have BK107 := n2_; have HB := n3_; clear n0_ n1_ n2_ n3_; clear hg hw hp_; have hcz29_0 : w28.cell? ⟨gb107, 0, none⟩ = some (.string ((rd_T59 l1 x15_2).f0)) := (blk_cell BK107.out 0).trans rfl; have hcz29_1 : w28.cell? ⟨gb107, 1, none⟩ = some (.int .i64 x108001_3) := (blk_cell BK107.out 1).trans rfl; have hcz29_2 : w28.cell? ⟨gb107, 2, none⟩ = some (.int .i64 x108002_3) := (blk_cell BK107.out 2).trans rfl; have hfz29_0 := blk_frozen BK107.out 0; have hfz29_1 := blk_frozen BK107.out 1; have hfz29_2 := blk_frozen BK107.out 2)))
                 go_roundg k3
                 case measure => have := HK1.out; have := HK2.out; have := HK3.out; omega
                 case rel => exact ⟨(y114), (true), (wrap64 (x18_3 + 1)), (wrap64 (x108001_3 + t112)), (wrap64 (x108002_3 + t113)), prr1_0, prr1_0, H', ⟨pof1_7⟩, ⟨by (with_reducible repeat (first | apply Kd.R_alloc | apply Kd.R_drewN | apply Kd.R_drew)); exact Kd.R_mono (Kd.R_far (p := ⟨gb107, 2, none⟩) (Kd.R_far (p := ⟨gb107, 1, none⟩) (Kd.R_types HO_12.out BK107.out (by decide)) (fun _ hk => hk.2) (.int .i64 (wrap64 (x108001_3 + t112)))) (fun _ hk => hk.2) (.int .i64 (wrap64 (x108002_3 + t113)))) (fun _ hk => trivial)⟩, ⟨by (with_reducible repeat (first | apply Kd.R_alloc | apply Kd.R_drewN | apply Kd.R_drew)); exact Kd.R_mono (Kd.R_far (p := ⟨gb107, 2, none⟩) (Kd.R_far (p := ⟨gb107, 1, none⟩) (Kd.R_mono HO_14.out (fun k_ hk => (⟨hk, hk⟩ : _ ∧ k_ ≠ gb107))) (fun _ hk => hk.2) (.int .i64 (wrap64 (x108001_3 + t112)))) (fun _ hk => hk.2) (.int .i64 (wrap64 (x108002_3 + t113)))) (fun _ hk => hk.1)⟩, ⟨by (with_reducible repeat (first | refine blk_drewN ?_ _ | refine blk_drew ?_ | refine blk_alloc ?_ _)); refine blk_put (cs := #[.string ((rd_T59 l1 x15_2).f0), .int .i64 (wrap64 (x108001_3 + t112)), .int .i64 x108002_3]) ?_ 2 _ rfl; (with_reducible repeat (first | refine blk_drewN ?_ _ | refine blk_drew ?_ | refine blk_alloc ?_ _)); refine blk_put (cs := #[.string ((rd_T59 l1 x15_2).f0), .int .i64 x108001_3, .int .i64 x108002_3]) ?_ 1 _ rfl; (with_reducible repeat (first | refine blk_drewN ?_ _ | refine blk_drew ?_ | refine blk_alloc ?_ _)); exact BK107.out⟩, ⟨pof1_5⟩⟩
                ·rw [if_neg c22] at H; exact absurd H (by simp)
               ·rw [if_neg c20] at H; have c20b0 : (((rd_T49 l0 x18_3).f1).toList == ((rd_T59 l1 x15_2).f0).toList) = false := beq_eq_false_iff_ne.mpr c20; have c20b1 : (((rd_T49 l0 x18_3).f1).toList != ((rd_T59 l1 x15_2).f0).toList) = true := bne_iff_ne.mpr c20; have H' := Aside0.mk H; clear H; (try go_wp2); have n0_ := Aside0.mk (Kd.R_drew HO_12.out); have n1_ := Aside0.mk (Kd.R_drew HO_14.out); have n2_ := Aside0.mk (blk_drew BK107.out); have n3_ := Aside0.mk (below_drew1 HB.out); clear HO_12; clear HO_14; clear BK107; clear HB; have HO_12 := n0_; have HO_14 := n1_; have BK107 := n2_; have HB := n3_; clear n0_ n1_ n2_ n3_; have p108 : 0 ≤ (x18_3 : Int) := of_decide_eq_true pcc1_0; have q108 : x18_3 < (l0.length : Int) := of_decide_eq_true pcc1_0; obtain ⟨ad108, e108, hx108_0, hx108_1⟩ := at_T49 HR0.out x18_3 p108 q108; have hw108_1 := hx108_1; have hw108_0 := hx108_0
                cases e108
                replace hx108_0 := (HB.out.cell (World.block_lt_of_cell? w _ hx108_0)).trans hx108_0; replace hx108_1 := (HB.out.cell (World.block_lt_of_cell? w _ hx108_1)).trans hx108_1; replace p108 := eq_true p108; replace q108 := eq_true q108; have p109 : 0 ≤ (x15_2 : Int) := of_decide_eq_true pcc1_0; have q109 : x15_2 < (l1.length : Int) := of_decide_eq_true pcc1_0; obtain ⟨ad109, e109, hx109_0, hx109_1, hx109_2, hx109_3⟩ := at_T59 HR1.out x15_2 p109 q109; have hw109_3 := hx109_3; have hw109_2 := hx109_2; have hw109_1 := hx109_1; have hw109_0 := hx109_0; obtain rfl : ad106 = ad109 := (by injection e109); replace hx109_0 := (HB.out.cell (World.block_lt_of_cell? w _ hx109_0)).trans hx109_0; replace hx109_1 := (HB.out.cell (World.block_lt_of_cell? w _ hx109_1)).trans hx109_1; replace hx109_2 := (HB.out.cell (World.block_lt_of_cell? w _ hx109_2)).trans hx109_2; replace hx109_3 := (HB.out.cell (World.block_lt_of_cell? w _ hx109_3)).trans hx109_3; replace p109 := eq_true p109; replace q109 := eq_true q109; refine start_ (n := 11) (S := fun w' => w'.cell? (ad108.add ((x18_3).toNat * 2)) = some (.int .i64 ((rd_T49 l0 x18_3).f0)) ∧ w'.cell? ⟨(ad108.add ((x18_3).toNat * 2)).block, (ad108.add ((x18_3).toNat * 2)).off + 1, none⟩ = some (.string ((rd_T49 l0 x18_3).f1)) ∧ w'.cell? (ad106.add ((x15_2).toNat * 4)) = some (.string ((rd_T59 l1 x15_2).f0)) ∧ w'.cell? ⟨(ad106.add ((x15_2).toNat * 4)).block, (ad106.add ((x15_2).toNat * 4)).off + 1, none⟩ = some (.string ((rd_T59 l1 x15_2).f1)) ∧ w'.cell? ⟨(ad106.add ((x15_2).toNat * 4)).block, (ad106.add ((x15_2).toNat * 4)).off + 2, none⟩ = some (.int .i64 ((rd_T59 l1 x15_2).f2.f0)) ∧ w'.cell? ⟨(ad106.add ((x15_2).toNat * 4)).block, (ad106.add ((x15_2).toNat * 4)).off + 3, none⟩ = some (.int .i64 ((rd_T59 l1 x15_2).f2.f1))) (ds := []) aof1_15 (by kernel_rfl) rfl rfl ⟨((HB.out.cell (World.block_lt_of_cell? w _ hw108_0)).trans hw108_0), ((HB.out.cell (World.block_lt_of_cell? w _ hw108_1)).trans hw108_1), ((HB.out.cell (World.block_lt_of_cell? w _ hw109_0)).trans hw109_0), ((HB.out.cell (World.block_lt_of_cell? w _ hw109_1)).trans hw109_1), ((HB.out.cell (World.block_lt_of_cell? w _ hw109_2)).trans hw109_2), ((HB.out.cell (World.block_lt_of_cell? w _ hw109_3)).trans hw109_3)⟩ (fun hHeld => ?_); refine with_tabW accountingref25_Of.tab18 accountingref25_Of.bits18 (fun HT_ HW_ => ?_); generalize wr.drew = w30 at HO_12 HO_14 BK107 HB hx108_0 hx108_1 hx109_0 hx109_1 hx109_2 hx109_3 hHeld ⊢; refine pure_ (i := 0) (N := some 61) (v := ?_) (a' := ?_) aof1_16 rfl rfl (any_of HT_.out (by kernel_rfl)) (fun _ _ _ h => h) (Or.inl ⟨by rfl, ?_⟩) ?_ ?_; rotate_left
                ·intro w'; go_simp; (with_reducible rfl)
                rotate_left
                ·exact ccc2_0
                refine pure_ (i := 1) (N := some 62) (v := ?_) (a' := ?_) aof1_17 rfl rfl (any_of HT_.out (by kernel_rfl)) (fun _ _ _ h => h) (Or.inl ⟨by rfl, ?_⟩) ?_ ?_; rotate_left
                ·intro w'; go_simp; (with_reducible rfl)
                rotate_left
                ·exact ccc2_0
                refine pure_ (i := 2) (N := some 63) (v := ?_) (a' := ?_) aof1_18 rfl rfl (any_of HT_.out (by kernel_rfl)) (fun _ _ _ h => h) (Or.inl ⟨by rfl, ?_⟩) ?_ ?_; rotate_left
                ·intro w'; go_simp; (with_reducible rfl)
                rotate_left
                ·exact ccc2_0
                refine pure_ (i := 3) (N := some 64) (v := ?_) (a' := ?_) aof1_19 rfl rfl (any_of HT_.out (by kernel_rfl)) (fun _ _ _ h => h) (Or.inl ⟨by rfl, ?_⟩) ?_ ?_; rotate_left
                ·intro w'; go_simp; (with_reducible rfl)
                rotate_left
                ·exact ccc2_0
                refine pure_ (i := 5) (N := some 66) (v := ?_) (a' := ?_) aof1_20 rfl rfl (any_of HT_.out (by kernel_rfl)) (fun _ _ _ h => h) (Or.inl ⟨by rfl, ?_⟩) ?_ ?_; rotate_left
                ·intro w'; go_simp; (with_reducible rfl)
                rotate_left
                ·exact ccc2_0
                refine pure_ (i := 6) (N := some 67) (v := ?_) (a' := ?_) aof1_21 rfl rfl (any_of HT_.out (by kernel_rfl)) (fun _ _ _ h => h) (Or.inl ⟨by rfl, ?_⟩) ?_ ?_; rotate_left
                ·intro w'; go_simp; (with_reducible rfl)
                rotate_left
                ·exact ccc2_0
                refine pure_ (i := 7) (N := some 68) (v := ?_) (a' := ?_) aof1_22 rfl rfl (any_of HT_.out (by kernel_rfl)) (fun _ _ _ h => h) (Or.inl ⟨by rfl, ?_⟩) ?_ ?_; rotate_left
                ·intro w'; go_simp; (with_reducible rfl)
                rotate_left
                ·exact ccc2_0
                refine pure_ (i := 8) (N := some 69) (v := ?_) (a' := ?_) aof1_23 rfl rfl (any_of HT_.out (by kernel_rfl)) (fun _ _ _ h => h) (Or.inl ⟨by rfl, ?_⟩) ?_ ?_; rotate_left
                ·intro w'; go_simp; (with_reducible rfl)
                rotate_left
                ·exact ccc2_0
                refine take_ (i := 4) (N := some 65) (v := ?_) (a' := ?_) aof1_24 rfl rfl (take_ofW HT_.out HW_.out (by kernel_rfl)) (fun _ _ _ h => h) (Or.inl ⟨by rfl, ?_⟩) hHeld ?_ ?_; rotate_left
                ·rintro w' ⟨s0, s1, s2, s3, s4, s5⟩; go_simp; (with_reducible rfl)
                rotate_left
                ·exact ccc2_0
                refine take_ (i := 9) (N := some 70) (v := ?_) (a' := ?_) aof1_25 rfl rfl (take_ofW HT_.out HW_.out (by kernel_rfl)) (fun _ _ _ h => h) (Or.inl ⟨by rfl, ?_⟩) hHeld ?_ ?_; rotate_left
                ·rintro w' ⟨s0, s1, s2, s3, s4, s5⟩; go_simp; (with_reducible rfl)
                rotate_left
                ·exact ccc2_0
                refine pure_ (i := 10) (N := some 71) (v := ?_) (a' := ?_) aof1_26 rfl rfl (any_of HT_.out (by kernel_rfl)) (fun _ _ _ h => h) (Or.inl ⟨by rfl, ?_⟩) ?_ ?_; rotate_left
                ·intro w'; go_simp; (with_reducible rfl)
                rotate_left
                ·exact ccc2_0
                refine done_ (done_of HT_.out (by kernel_rfl)) ?_; (try go_wp2)
                go_roundg k3
                case measure => have := HK1.out; have := HK2.out; have := HK3.out; omega
                case rel => exact ⟨(x12_3), (x17_3), (wrap64 (x18_3 + 1)), (x108001_3), (x108002_3), prr1_0, prr1_0, H', ⟨pof1_7⟩, ⟨pof1_3⟩, ⟨pof1_4⟩, ⟨pof1_6⟩, ⟨pof1_5⟩⟩
              ·rw [if_neg c19] at H; exact absurd H (by simp)
             ·rw [if_neg c18] at H; exact absurd H (by simp)
            ·rw [if_neg c17] at H; exact absurd H (by simp)
           ·rw [if_neg c16] at H; have c16b0 : decide (x18_3 < (l0.length : Int)) = false := decide_eq_false c16; clear c16
            by_cases c31 : a2 = 2
            ·rw [if_pos c31] at H; have c31b0 : (a2 == 2) = true := beq_iff_eq.mpr c31; have c31b1 : (a2 != 2) = false := bne_eq_false_iff_eq.mpr c31; clear c31
             by_cases c32 : 0 ≤ x15_2
             ·rw [if_pos c32] at H; have c32b0 : decide (0 ≤ x15_2) = true := decide_eq_true c32; clear c32
              by_cases c33 : x15_2 < (l1.length : Int)
              ·rw [if_pos c33] at H; have c33b0 : decide (x15_2 < (l1.length : Int)) = true := decide_eq_true c33; clear c33; replace H := Option.bind_eq_some_iff.mp H; obtain ⟨⟨t116, t117⟩, A340, H⟩ := H; replace H : (if x17_3 = true then (if x14_2.length < 4398046511104 then (accountingref25_Of.l1 k3 l0 l1 a2 a3 x12_3 (x14_2 ++ [(⟨((rd_T59 l1 x15_2).f0), x108001_3, t116⟩ : S51)]) (wrap64 (x15_2 + 1))) else (none)) else (accountingref25_Of.l1 k3 l0 l1 a2 a3 x12_3 x14_2 (wrap64 (x15_2 + 1)))) = some (r1, r2, r3) := H; have A34 := Aside0.mk A340; clear A340
               by_cases c35 : x17_3 = true
               ·subst c35; have H1 : (if x14_2.length < 4398046511104 then (accountingref25_Of.l1 k3 l0 l1 a2 a3 x12_3 (x14_2 ++ [(⟨((rd_T59 l1 x15_2).f0), x108001_3, t116⟩ : S51)]) (wrap64 (x15_2 + 1))) else (none)) = some (r1, r2, r3) := by rw [if_pos rfl] at H; exact H
                clear H; have H := H1; clear H1
                by_cases c36 : x14_2.length < 4398046511104
                ·rw [if_pos c36] at H; have LMc36 := Aside0.mk c36; clear c36; obtain ⟨y118, hy118⟩ : ∃ y_ : List (S51), y_ = (x14_2 ++ [(⟨((rd_T59 l1 x15_2).f0), x108001_3, t116⟩ : S51)]) := ⟨_, rfl⟩; replace H : (accountingref25_Of.l1 k3 l0 l1 a2 a3 x12_3 y118 (wrap64 (x15_2 + 1))) = some (r1, r2, r3) := by first | (rw [hy118]; with_reducible exact H) | (have H2_ := (Option.bind_some _ _).symm.trans H; rw [hy118]; with_reducible exact H2_) | (have H2_ := (Option.bind_some _ _).symm.trans H; with_reducible exact H2_) | with_reducible exact H | (rw [hy118]; exact H) | exact H
                 have Ny118 := Aside0.mk hy118; clear hy118; have H' := Aside0.mk H; clear H; (try go_wp2); have n0_ := Aside0.mk (Kd.R_drew HO_12.out); have n1_ := Aside0.mk (Kd.R_drew HO_14.out); have n2_ := Aside0.mk (blk_drew BK107.out); have n3_ := Aside0.mk (below_drew1 HB.out); clear HO_12; clear HO_14; clear BK107; clear HB; have HO_12 := n0_; have HO_14 := n1_; have BK107 := n2_; have HB := n3_; clear n0_ n1_ n2_ n3_; have p115 : 0 ≤ (x15_2 : Int) := of_decide_eq_true pcc1_0; have q115 : x15_2 < (l1.length : Int) := of_decide_eq_true pcc1_0; obtain ⟨ad115, e115, hx115_0, hx115_1, hx115_2, hx115_3⟩ := at_T59 HR1.out x15_2 p115 q115; have hw115_3 := hx115_3; have hw115_2 := hx115_2; have hw115_1 := hx115_1; have hw115_0 := hx115_0; obtain rfl : ad106 = ad115 := (by injection e115); replace hx115_0 := (HB.out.cell (World.block_lt_of_cell? w _ hx115_0)).trans hx115_0; replace hx115_1 := (HB.out.cell (World.block_lt_of_cell? w _ hx115_1)).trans hx115_1; replace hx115_2 := (HB.out.cell (World.block_lt_of_cell? w _ hx115_2)).trans hx115_2; replace hx115_3 := (HB.out.cell (World.block_lt_of_cell? w _ hx115_3)).trans hx115_3; replace p115 := eq_true p115; replace q115 := eq_true q115; refine start_ (n := 14) (S := fun w' => w'.cell? ⟨gb107, 0, none⟩ = some (.string ((rd_T59 l1 x15_2).f0)) ∧ w'.cell? ⟨gb107, 1, none⟩ = some (.int .i64 x108001_3) ∧ w'.cell? ⟨gb107, 2, none⟩ = some (.int .i64 x108002_3) ∧ w'.cell? (ad106.add ((x15_2).toNat * 4)) = some (.string ((rd_T59 l1 x15_2).f0)) ∧ w'.cell? ⟨(ad106.add ((x15_2).toNat * 4)).block, (ad106.add ((x15_2).toNat * 4)).off + 1, none⟩ = some (.string ((rd_T59 l1 x15_2).f1)) ∧ w'.cell? ⟨(ad106.add ((x15_2).toNat * 4)).block, (ad106.add ((x15_2).toNat * 4)).off + 2, none⟩ = some (.int .i64 ((rd_T59 l1 x15_2).f2.f0)) ∧ w'.cell? ⟨(ad106.add ((x15_2).toNat * 4)).block, (ad106.add ((x15_2).toNat * 4)).off + 3, none⟩ = some (.int .i64 ((rd_T59 l1 x15_2).f2.f1))) (ds := [13]) aof1_0 (by kernel_rfl) rfl rfl ⟨(blk_cell BK107.out 0).trans rfl, (blk_cell BK107.out 1).trans rfl, (blk_cell BK107.out 2).trans rfl, ((HB.out.cell (World.block_lt_of_cell? w _ hw115_0)).trans hw115_0), ((HB.out.cell (World.block_lt_of_cell? w _ hw115_1)).trans hw115_1), ((HB.out.cell (World.block_lt_of_cell? w _ hw115_2)).trans hw115_2), ((HB.out.cell (World.block_lt_of_cell? w _ hw115_3)).trans hw115_3)⟩ (fun hHeld => ?_); refine with_tabW accountingref25_Of.tab25 accountingref25_Of.bits25 (fun HT_ HW_ => ?_); generalize wr.drew = w37 at HO_12 HO_14 BK107 HB hx115_0 hx115_1 hx115_2 hx115_3 hHeld ⊢; refine pure_ (i := 0) (N := some 103) (v := ?_) (a' := ?_) aof1_1 rfl rfl (any_of HT_.out (by kernel_rfl)) (fun _ _ _ h => h) (Or.inl ⟨by rfl, ?_⟩) ?_ ?_; rotate_left
                 ·intro w'; go_simp; (with_reducible rfl)
                 rotate_left
                 ·exact ccc2_0
                 refine pure_ (i := 2) (N := some 105) (v := ?_) (a' := ?_) aof1_2 rfl rfl (any_of HT_.out (by kernel_rfl)) (fun _ _ _ h => h) (Or.inl ⟨by rfl, ?_⟩) ?_ ?_; rotate_left
                 ·intro w'; go_simp; (with_reducible rfl)
                 rotate_left
                 ·exact ccc2_0
                 refine pure_ (i := 3) (N := some 106) (v := ?_) (a' := ?_) aof1_3 rfl rfl (any_of HT_.out (by kernel_rfl)) (fun _ _ _ h => h) (Or.inl ⟨by rfl, ?_⟩) ?_ ?_; rotate_left
                 ·intro w'; go_simp; (with_reducible rfl)
                 rotate_left
                 ·exact ccc2_0
                 refine pure_ (i := 4) (N := some 107) (v := ?_) (a' := ?_) aof1_4 rfl rfl (any_of HT_.out (by kernel_rfl)) (fun _ _ _ h => h) (Or.inl ⟨by rfl, ?_⟩) ?_ ?_; rotate_left
                 ·intro w'; go_simp; (with_reducible rfl)
                 rotate_left
                 ·exact ccc2_0
                 refine pure_ (i := 5) (N := some 108) (v := ?_) (a' := ?_) aof1_5 rfl rfl (any_of HT_.out (by kernel_rfl)) (fun _ _ _ h => h) (Or.inl ⟨by rfl, ?_⟩) ?_ ?_; rotate_left
                 ·intro w'; go_simp; (with_reducible rfl)
                 rotate_left
                 ·exact ccc2_0
                 refine pure_ (i := 7) (N := some 110) (v := ?_) (a' := ?_) aof1_6 rfl rfl (any_of HT_.out (by kernel_rfl)) (fun _ _ _ h => h) (Or.inl ⟨by rfl, ?_⟩) ?_ ?_; rotate_left
                 ·intro w'; go_simp; (with_reducible rfl)
                 rotate_left
                 ·exact ccc2_0
                 refine take_ (i := 1) (N := some 104) (v := ?_) (a' := ?_) aof1_7 rfl rfl (take_ofW HT_.out HW_.out (by kernel_rfl)) (fun _ _ _ h => h) (Or.inl ⟨by rfl, ?_⟩) hHeld ?_ ?_; rotate_left
                 ·rintro w' ⟨s0, s1, s2, s3, s4, s5, s6⟩; go_simp; (with_reducible rfl)
                 rotate_left
                 ·exact ccc2_0
                 refine take_ (i := 6) (N := some 109) (v := ?_) (a' := ?_) aof1_8 rfl rfl (take_ofW HT_.out HW_.out (by kernel_rfl)) (fun _ _ _ h => h) (Or.inl ⟨by rfl, ?_⟩) hHeld ?_ ?_; rotate_left
                 ·rintro w' ⟨s0, s1, s2, s3, s4, s5, s6⟩; go_simp; (with_reducible rfl)
                 rotate_left
                 ·exact ccc2_0
                 refine one_ (i := 8) (N := some 111) aof1_9 rfl rfl (one_of HT_.out (by kernel_rfl)) (by decide) (fun K hK => ?_); refine goes_ Try.func11 (by kernel_rfl) rfl #[.int .i64 x108001_3, .agg #[.int .i64 ((rd_T59 l1 x15_2).f2.f0), .int .i64 ((rd_T59 l1 x15_2).f2.f1)], .int .i64 a3] (by rfl) rfl rfl prr1_2 ?_; (with_reducible refine (accountingref25_On.calls k3 x108001_3 ((rd_T59 l1 x15_2).f2.f0) ((rd_T59 l1 x15_2).f2.f1) a3 t116 t117 _ A34.out).mono ?_); rintro e w38 ⟨rfl, hb⟩; refine ⟨_, rfl, ?_⟩; have n0_ := Aside0.mk (Kd.R_below pof1_3 hb); have n1_ := Aside0.mk (Kd.R_below pof1_4 hb); have n2_ := Aside0.mk (blk_below (g := gb107) (o := .cells #[.string ((rd_T59 l1 x15_2).f0), .int .i64 x108001_3, .int .i64 x108002_3] 51 (0, 0)) pof1_6 hb); have n3_ := Aside0.mk (below_step pof1_5 hb); clear HO_12; clear HO_14; clear BK107; clear HB; have HO_12 := n0_; have HO_14 := n1_; have BK107 := n2_; have HB := n3_; clear n0_ n1_ n2_ n3_; (try clear hb); (try clear hb2); (try clear hk); (try clear hi); refine hK.out _ _ ⟨(blk_cell BK107.out 0).trans rfl, (blk_cell BK107.out 1).trans rfl, (blk_cell BK107.out 2).trans rfl, ((HB.out.cell (World.block_lt_of_cell? w _ hw115_0)).trans hw115_0), ((HB.out.cell (World.block_lt_of_cell? w _ hw115_1)).trans hw115_1), ((HB.out.cell (World.block_lt_of_cell? w _ hw115_2)).trans hw115_2), ((HB.out.cell (World.block_lt_of_cell? w _ hw115_3)).trans hw115_3)⟩ (fun hHeld => ?_); clear hK K; refine norm_ (a' := ?_) ?_ ?_; rotate_left
                 ·show Act.put _ (some 111) _ = _; simp only [Act.put, List.setIfInBounds_toArray, List.set_cons_zero, List.set_cons_succ, i64_w, i32_w]
                  rfl
                 refine pure_ (i := 9) (N := some 102) (v := ?_) (a' := ?_) aof1_10 rfl rfl (any_of HT_.out (by kernel_rfl)) (fun _ _ _ h => h) (Or.inl ⟨by rfl, ?_⟩) ?_ ?_; rotate_left
                 ·intro w'; go_simp; (with_reducible rfl)
                 rotate_left
                 ·exact ccc2_0
                 refine pure_ (i := 10) (N := some 112) (v := ?_) (a' := ?_) aof1_11 rfl rfl (any_of HT_.out (by kernel_rfl)) (fun _ _ _ h => h) (Or.inl ⟨by rfl, ?_⟩) ?_ ?_; rotate_left
                 ·intro w'; go_simp; (with_reducible rfl)
                 rotate_left
                 ·exact ccc2_0
                 refine pure_ (i := 11) (N := some 113) (v := ?_) (a' := ?_) aof1_12 rfl rfl (any_of HT_.out (by kernel_rfl)) (fun _ _ _ h => h) (Or.inl ⟨by rfl, ?_⟩) ?_ ?_; rotate_left
                 ·intro w'; go_simp; (with_reducible rfl)
                 rotate_left
                 ·exact ccc2_0
                 refine pure_ (i := 12) (N := some 114) (v := ?_) (a' := ?_) aof1_13 rfl rfl (any_of HT_.out (by kernel_rfl)) (fun _ _ _ h => h) (Or.inl ⟨by rfl, ?_⟩) ?_ ?_; rotate_left
                 ·intro w'; go_simp; (with_reducible rfl)
                 rotate_left
                 ·exact ccc2_0
                 refine last_ (i := 13) (N := none) aof1_14 rfl rfl (one_of HT_.out (by kernel_rfl)) (by decide) (fun K hK => ?_); have hs39 : w38.cell? ⟨gb107, 2, none⟩ = some (.int .i64 x108002_3) := (blk_cell BK107.out 2).trans rfl; have hfs39 := blk_frozen BK107.out 2; refine skip_ (w1 := ?_) (by rfl) rfl ?_ ?_; rotate_left
                 ·go_simp
                  rfl
                 refine hK.out _ _ ?_; clear hK K; refine done_ (done_of HT_.out (by kernel_rfl)) ?_; have hcz40_0 : w38.cell? ⟨gb107, 0, none⟩ = some (.string ((rd_T59 l1 x15_2).f0)) := (blk_cell BK107.out 0).trans rfl; have hcz40_1 : w38.cell? ⟨gb107, 1, none⟩ = some (.int .i64 x108001_3) := (blk_cell BK107.out 1).trans rfl; have hcz40_2 : w38.cell? ⟨gb107, 2, none⟩ = some (.int .i64 x108002_3) := (blk_cell BK107.out 2).trans rfl; have hfz40_0 := blk_frozen BK107.out 0; have hfz40_1 := blk_frozen BK107.out 1; have hfz40_2 := blk_frozen BK107.out 2; (try go_wp2_with (first | ((with_reducible refine gate_builtin (b := .append) (xs := #[.tmp 116, .tmp 118]) rfl ?_); at_builtin; refine Kd.R_append k51 (w0 := w) w.heap.size rfl (.tmp 116) (.tmp 118) 40 51 (.agg #[(.string ⟨#[]⟩), (.int .i64 0), (.int .i64 0)]) 32 rfl Try.underlying40 info51 rfl (by decide) (by omega) u14 x14_2 (⟨((rd_T59 l1 x15_2).f0), x108001_3, t116⟩ : S51) [.string ((rd_T59 l1 x15_2).f0), .int .i64 x108001_3, .int .i64 t116] (fun k_ => k_ ≠ gb107) (fun _ => False) rfl (by first | (go_simp; done) | (go_simp; rfl)) ?aP (fun _ hk => hk.elim) ?aF ?aO ?aB ?aS ?aL ?_; (case aP => exact k51_mkM _ _ _ (⟨((rd_T59 l1 x15_2).f0), x108001_3, t116⟩ : S51)); (case aB => exact pof1_5); (case aF => exact (fun k_ hk => Kd.freshB (g := gb107) (o := .cells #[.string ((rd_T59 l1 x15_2).f0), .int .i64 x108001_3, .int .i64 t116] 51 (0, 0)) (by (with_reducible repeat (first | refine blk_drewN ?_ _ | refine blk_drew ?_ | refine blk_alloc ?_ _)); refine blk_put (cs := #[.string ((rd_T59 l1 x15_2).f0), .int .i64 x108001_3, .int .i64 x108002_3]) ?_ 2 _ rfl; (with_reducible repeat (first | refine blk_drewN ?_ _ | refine blk_drew ?_ | refine blk_alloc ?_ _)); exact BK107.out) k_ hk)); (case aO => exact (by (with_reducible repeat (first | apply Kd.R_alloc | apply Kd.R_drewN | apply Kd.R_drew)); exact Kd.R_mono (Kd.R_far (p := ⟨gb107, 2, none⟩) (Kd.R_mono HO_14.out (fun k_ hk => (⟨hk, hk⟩ : _ ∧ k_ ≠ gb107))) (fun _ hk => hk.2) (.int .i64 t116)) (fun _ hk => hk.1))); (case aS => exact (below_size pof1_5)); (case aL => have := LMc36.out; omega); intro v119 w41 ho hb hg hat; rw [← Ny118.out] at ho; have n0_ := Aside0.mk (Kd.R_over' (by (with_reducible repeat (first | apply Kd.R_alloc | apply Kd.R_drewN | apply Kd.R_drew)); exact (Kd.R_mono (Kd.R_far (p := ⟨gb107, 2, none⟩) (Kd.R_types HO_12.out BK107.out (by decide)) (fun _ hk => hk.2) (.int .i64 t116)) (fun _ h_ => h_.1))) (Kd.R_typed (by (with_reducible repeat (first | apply Kd.R_alloc | apply Kd.R_drewN | apply Kd.R_drew)); exact (Kd.R_mono (Kd.R_far (p := ⟨gb107, 2, none⟩) (Kd.R_mono HO_14.out (fun k_ hk => (⟨hk, hk⟩ : _ ∧ k_ ≠ gb107))) (fun _ hk => hk.2) (.int .i64 t116)) (fun _ h_ => h_.1)))) (by decide) hg); have n1_ := Aside0.mk (blk_grown (g := gb107) (o := .cells #[.string ((rd_T59 l1 x15_2).f0), .int .i64 x108001_3, .int .i64 t116] 51 (0, 0)) (by (with_reducible repeat (first | refine blk_drewN ?_ _ | refine blk_drew ?_ | refine blk_alloc ?_ _)); refine blk_put (cs := #[.string ((rd_T59 l1 x15_2).f0), .int .i64 x108001_3, .int .i64 x108002_3]) ?_ 2 _ rfl; (with_reducible repeat (first | refine blk_drewN ?_ _ | refine blk_drew ?_ | refine blk_alloc ?_ _)); exact BK107.out) hg (Kd.R_away HO_14.out (fun _ hk => hk))); have n2_ := Aside0.mk (hb); have n3_ := Aside0.mk (ho); clear HO_12; clear BK107; clear HB; clear HO_14; have HO_12 := n0_; have BK107 := n1_; have HB := n2_; have HO120 := n3_; clear n0_ n1_ n2_ n3_; clear ho hb hg hat)))
                 go_roundg k3
                 case measure => have := HK1.out; have := HK2.out; have := HK3.out; omega
                 case rel => exact ⟨(x12_3), (y118), (wrap64 (x15_2 + 1)), prr1_0, H', ⟨pof1_7⟩, ⟨pof1_3⟩, ⟨by (with_reducible repeat (first | apply Kd.R_alloc | apply Kd.R_drewN | apply Kd.R_drew)); exact Kd.R_mono HO120.out (fun _ hk => trivial)⟩, ⟨pof1_5⟩⟩
                ·rw [if_neg c36] at H; exact absurd H (by simp)
               ·replace c35 := Bool.eq_false_iff.mpr c35; subst c35; have H1 : (accountingref25_Of.l1 k3 l0 l1 a2 a3 x12_3 x14_2 (wrap64 (x15_2 + 1))) = some (r1, r2, r3) := by rw [if_neg (show ¬ (false = true) by decide)] at H; exact H
                clear H; have H := H1; clear H1; have H' := Aside0.mk H; clear H; (try go_wp2); have n0_ := Aside0.mk (Kd.R_drew HO_12.out); have n1_ := Aside0.mk (Kd.R_drew HO_14.out); have n2_ := Aside0.mk (blk_drew BK107.out); have n3_ := Aside0.mk (below_drew1 HB.out); clear HO_12; clear HO_14; clear BK107; clear HB; have HO_12 := n0_; have HO_14 := n1_; have BK107 := n2_; have HB := n3_; clear n0_ n1_ n2_ n3_; have p115 : 0 ≤ (x15_2 : Int) := of_decide_eq_true pcc1_0; have q115 : x15_2 < (l1.length : Int) := of_decide_eq_true pcc1_0; obtain ⟨ad115, e115, hx115_0, hx115_1, hx115_2, hx115_3⟩ := at_T59 HR1.out x15_2 p115 q115; have hw115_3 := hx115_3; have hw115_2 := hx115_2; have hw115_1 := hx115_1; have hw115_0 := hx115_0; obtain rfl : ad106 = ad115 := (by injection e115); replace hx115_0 := (HB.out.cell (World.block_lt_of_cell? w _ hx115_0)).trans hx115_0; replace hx115_1 := (HB.out.cell (World.block_lt_of_cell? w _ hx115_1)).trans hx115_1; replace hx115_2 := (HB.out.cell (World.block_lt_of_cell? w _ hx115_2)).trans hx115_2; replace hx115_3 := (HB.out.cell (World.block_lt_of_cell? w _ hx115_3)).trans hx115_3; replace p115 := eq_true p115; replace q115 := eq_true q115; refine start_ (n := 14) (S := fun w' => w'.cell? ⟨gb107, 0, none⟩ = some (.string ((rd_T59 l1 x15_2).f0)) ∧ w'.cell? ⟨gb107, 1, none⟩ = some (.int .i64 x108001_3) ∧ w'.cell? ⟨gb107, 2, none⟩ = some (.int .i64 x108002_3) ∧ w'.cell? (ad106.add ((x15_2).toNat * 4)) = some (.string ((rd_T59 l1 x15_2).f0)) ∧ w'.cell? ⟨(ad106.add ((x15_2).toNat * 4)).block, (ad106.add ((x15_2).toNat * 4)).off + 1, none⟩ = some (.string ((rd_T59 l1 x15_2).f1)) ∧ w'.cell? ⟨(ad106.add ((x15_2).toNat * 4)).block, (ad106.add ((x15_2).toNat * 4)).off + 2, none⟩ = some (.int .i64 ((rd_T59 l1 x15_2).f2.f0)) ∧ w'.cell? ⟨(ad106.add ((x15_2).toNat * 4)).block, (ad106.add ((x15_2).toNat * 4)).off + 3, none⟩ = some (.int .i64 ((rd_T59 l1 x15_2).f2.f1))) (ds := [13]) aof1_0 (by kernel_rfl) rfl rfl ⟨(blk_cell BK107.out 0).trans rfl, (blk_cell BK107.out 1).trans rfl, (blk_cell BK107.out 2).trans rfl, ((HB.out.cell (World.block_lt_of_cell? w _ hw115_0)).trans hw115_0), ((HB.out.cell (World.block_lt_of_cell? w _ hw115_1)).trans hw115_1), ((HB.out.cell (World.block_lt_of_cell? w _ hw115_2)).trans hw115_2), ((HB.out.cell (World.block_lt_of_cell? w _ hw115_3)).trans hw115_3)⟩ (fun hHeld => ?_); refine with_tabW accountingref25_Of.tab25 accountingref25_Of.bits25 (fun HT_ HW_ => ?_); generalize wr.drew = w42 at HO_12 HO_14 BK107 HB hx115_0 hx115_1 hx115_2 hx115_3 hHeld ⊢; refine pure_ (i := 0) (N := some 103) (v := ?_) (a' := ?_) aof1_1 rfl rfl (any_of HT_.out (by kernel_rfl)) (fun _ _ _ h => h) (Or.inl ⟨by rfl, ?_⟩) ?_ ?_; rotate_left
                ·intro w'; go_simp; (with_reducible rfl)
                rotate_left
                ·exact ccc2_0
                refine pure_ (i := 2) (N := some 105) (v := ?_) (a' := ?_) aof1_2 rfl rfl (any_of HT_.out (by kernel_rfl)) (fun _ _ _ h => h) (Or.inl ⟨by rfl, ?_⟩) ?_ ?_; rotate_left
                ·intro w'; go_simp; (with_reducible rfl)
                rotate_left
                ·exact ccc2_0
                refine pure_ (i := 3) (N := some 106) (v := ?_) (a' := ?_) aof1_3 rfl rfl (any_of HT_.out (by kernel_rfl)) (fun _ _ _ h => h) (Or.inl ⟨by rfl, ?_⟩) ?_ ?_; rotate_left
                ·intro w'; go_simp; (with_reducible rfl)
                rotate_left
                ·exact ccc2_0
                refine pure_ (i := 4) (N := some 107) (v := ?_) (a' := ?_) aof1_4 rfl rfl (any_of HT_.out (by kernel_rfl)) (fun _ _ _ h => h) (Or.inl ⟨by rfl, ?_⟩) ?_ ?_; rotate_left
                ·intro w'; go_simp; (with_reducible rfl)
                rotate_left
                ·exact ccc2_0
                refine pure_ (i := 5) (N := some 108) (v := ?_) (a' := ?_) aof1_5 rfl rfl (any_of HT_.out (by kernel_rfl)) (fun _ _ _ h => h) (Or.inl ⟨by rfl, ?_⟩) ?_ ?_; rotate_left
                ·intro w'; go_simp; (with_reducible rfl)
                rotate_left
                ·exact ccc2_0
                refine pure_ (i := 7) (N := some 110) (v := ?_) (a' := ?_) aof1_6 rfl rfl (any_of HT_.out (by kernel_rfl)) (fun _ _ _ h => h) (Or.inl ⟨by rfl, ?_⟩) ?_ ?_; rotate_left
                ·intro w'; go_simp; (with_reducible rfl)
                rotate_left
                ·exact ccc2_0
                refine take_ (i := 1) (N := some 104) (v := ?_) (a' := ?_) aof1_7 rfl rfl (take_ofW HT_.out HW_.out (by kernel_rfl)) (fun _ _ _ h => h) (Or.inl ⟨by rfl, ?_⟩) hHeld ?_ ?_; rotate_left
                ·rintro w' ⟨s0, s1, s2, s3, s4, s5, s6⟩; go_simp; (with_reducible rfl)
                rotate_left
                ·exact ccc2_0
                refine take_ (i := 6) (N := some 109) (v := ?_) (a' := ?_) aof1_8 rfl rfl (take_ofW HT_.out HW_.out (by kernel_rfl)) (fun _ _ _ h => h) (Or.inl ⟨by rfl, ?_⟩) hHeld ?_ ?_; rotate_left
                ·rintro w' ⟨s0, s1, s2, s3, s4, s5, s6⟩; go_simp; (with_reducible rfl)
                rotate_left
                ·exact ccc2_0
                refine one_ (i := 8) (N := some 111) aof1_9 rfl rfl (one_of HT_.out (by kernel_rfl)) (by decide) (fun K hK => ?_); refine goes_ Try.func11 (by kernel_rfl) rfl #[.int .i64 x108001_3, .agg #[.int .i64 ((rd_T59 l1 x15_2).f2.f0), .int .i64 ((rd_T59 l1 x15_2).f2.f1)], .int .i64 a3] (by rfl) rfl rfl prr1_2 ?_; (with_reducible refine (accountingref25_On.calls k3 x108001_3 ((rd_T59 l1 x15_2).f2.f0) ((rd_T59 l1 x15_2).f2.f1) a3 t116 t117 _ A34.out).mono ?_); rintro e w43 ⟨rfl, hb⟩; refine ⟨_, rfl, ?_⟩; have n0_ := Aside0.mk (Kd.R_below pof1_3 hb); have n1_ := Aside0.mk (Kd.R_below pof1_4 hb); have n2_ := Aside0.mk (blk_below (g := gb107) (o := .cells #[.string ((rd_T59 l1 x15_2).f0), .int .i64 x108001_3, .int .i64 x108002_3] 51 (0, 0)) pof1_6 hb); have n3_ := Aside0.mk (below_step pof1_5 hb); clear HO_12; clear HO_14; clear BK107; clear HB; have HO_12 := n0_; have HO_14 := n1_; have BK107 := n2_; have HB := n3_; clear n0_ n1_ n2_ n3_; (try clear hb); (try clear hb2); (try clear hk); (try clear hi); refine hK.out _ _ ⟨(blk_cell BK107.out 0).trans rfl, (blk_cell BK107.out 1).trans rfl, (blk_cell BK107.out 2).trans rfl, ((HB.out.cell (World.block_lt_of_cell? w _ hw115_0)).trans hw115_0), ((HB.out.cell (World.block_lt_of_cell? w _ hw115_1)).trans hw115_1), ((HB.out.cell (World.block_lt_of_cell? w _ hw115_2)).trans hw115_2), ((HB.out.cell (World.block_lt_of_cell? w _ hw115_3)).trans hw115_3)⟩ (fun hHeld => ?_); clear hK K; refine norm_ (a' := ?_) ?_ ?_; rotate_left
                ·show Act.put _ (some 111) _ = _; simp only [Act.put, List.setIfInBounds_toArray, List.set_cons_zero, List.set_cons_succ, i64_w, i32_w]
                 rfl
                refine pure_ (i := 9) (N := some 102) (v := ?_) (a' := ?_) aof1_10 rfl rfl (any_of HT_.out (by kernel_rfl)) (fun _ _ _ h => h) (Or.inl ⟨by rfl, ?_⟩) ?_ ?_; rotate_left
                ·intro w'; go_simp; (with_reducible rfl)
                rotate_left
                ·exact ccc2_0
                refine pure_ (i := 10) (N := some 112) (v := ?_) (a' := ?_) aof1_11 rfl rfl (any_of HT_.out (by kernel_rfl)) (fun _ _ _ h => h) (Or.inl ⟨by rfl, ?_⟩) ?_ ?_; rotate_left
                ·intro w'; go_simp; (with_reducible rfl)
                rotate_left
                ·exact ccc2_0
                refine pure_ (i := 11) (N := some 113) (v := ?_) (a' := ?_) aof1_12 rfl rfl (any_of HT_.out (by kernel_rfl)) (fun _ _ _ h => h) (Or.inl ⟨by rfl, ?_⟩) ?_ ?_; rotate_left
                ·intro w'; go_simp; (with_reducible rfl)
                rotate_left
                ·exact ccc2_0
                refine pure_ (i := 12) (N := some 114) (v := ?_) (a' := ?_) aof1_13 rfl rfl (any_of HT_.out (by kernel_rfl)) (fun _ _ _ h => h) (Or.inl ⟨by rfl, ?_⟩) ?_ ?_; rotate_left
                ·intro w'; go_simp; (with_reducible rfl)
                rotate_left
                ·exact ccc2_0
                refine last_ (i := 13) (N := none) aof1_14 rfl rfl (one_of HT_.out (by kernel_rfl)) (by decide) (fun K hK => ?_); have hs44 : w43.cell? ⟨gb107, 2, none⟩ = some (.int .i64 x108002_3) := (blk_cell BK107.out 2).trans rfl; have hfs44 := blk_frozen BK107.out 2; refine skip_ (w1 := ?_) (by rfl) rfl ?_ ?_; rotate_left
                ·go_simp
                 rfl
                refine hK.out _ _ ?_; clear hK K; refine done_ (done_of HT_.out (by kernel_rfl)) ?_; (try go_wp2)
                go_roundg k3
                case measure => have := HK1.out; have := HK2.out; have := HK3.out; omega
                case rel => exact ⟨(x12_3), (x14_2), (wrap64 (x15_2 + 1)), prr1_0, H', ⟨pof1_7⟩, ⟨by (with_reducible repeat (first | apply Kd.R_alloc | apply Kd.R_drewN | apply Kd.R_drew)); exact Kd.R_mono (Kd.R_far (p := ⟨gb107, 2, none⟩) (Kd.R_types HO_12.out BK107.out (by decide)) (fun _ hk => hk.2) (.int .i64 t116)) (fun _ hk => trivial)⟩, ⟨by (with_reducible repeat (first | apply Kd.R_alloc | apply Kd.R_drewN | apply Kd.R_drew)); exact Kd.R_mono (Kd.R_far (p := ⟨gb107, 2, none⟩) (Kd.R_mono HO_14.out (fun k_ hk => (⟨hk, hk⟩ : _ ∧ k_ ≠ gb107))) (fun _ hk => hk.2) (.int .i64 t116)) (fun _ hk => trivial)⟩, ⟨pof1_5⟩⟩
              ·rw [if_neg c33] at H; exact absurd H (by simp)
             ·rw [if_neg c32] at H; exact absurd H (by simp)
            ·rw [if_neg c31] at H; have c31b0 : (a2 == 2) = false := beq_eq_false_iff_ne.mpr c31; have c31b1 : (a2 != 2) = true := bne_iff_ne.mpr c31
             by_cases c45 : x17_3 = true
             ·subst c45; have H1 : (if x14_2.length < 4398046511104 then (accountingref25_Of.l1 k3 l0 l1 a2 a3 x12_3 (x14_2 ++ [(⟨((rd_T59 l1 x15_2).f0), x108001_3, x108002_3⟩ : S51)]) (wrap64 (x15_2 + 1))) else (none)) = some (r1, r2, r3) := by rw [if_pos rfl] at H; exact H
              clear H; have H := H1; clear H1
              by_cases c46 : x14_2.length < 4398046511104
              ·rw [if_pos c46] at H; have LMc46 := Aside0.mk c46; clear c46; obtain ⟨y121, hy121⟩ : ∃ y_ : List (S51), y_ = (x14_2 ++ [(⟨((rd_T59 l1 x15_2).f0), x108001_3, x108002_3⟩ : S51)]) := ⟨_, rfl⟩; replace H : (accountingref25_Of.l1 k3 l0 l1 a2 a3 x12_3 y121 (wrap64 (x15_2 + 1))) = some (r1, r2, r3) := by first | (rw [hy121]; with_reducible exact H) | (have H2_ := (Option.bind_some _ _).symm.trans H; rw [hy121]; with_reducible exact H2_) | (have H2_ := (Option.bind_some _ _).symm.trans H; with_reducible exact H2_) | with_reducible exact H | (rw [hy121]; exact H) | exact H
               have Ny121 := Aside0.mk hy121; clear hy121; have H' := Aside0.mk H; clear H; have hcz47_0 : wr.cell? ⟨gb107, 0, none⟩ = some (.string ((rd_T59 l1 x15_2).f0)) := (blk_cell BK107.out 0).trans rfl; have hcz47_1 : wr.cell? ⟨gb107, 1, none⟩ = some (.int .i64 x108001_3) := (blk_cell BK107.out 1).trans rfl; have hcz47_2 : wr.cell? ⟨gb107, 2, none⟩ = some (.int .i64 x108002_3) := (blk_cell BK107.out 2).trans rfl; have hfz47_0 := blk_frozen BK107.out 0; have hfz47_1 := blk_frozen BK107.out 1; have hfz47_2 := blk_frozen BK107.out 2
               go_wp2_with (first | ((with_reducible refine gate_builtin (b := .append) (xs := #[.tmp 116, .tmp 118]) rfl ?_); at_builtin; refine Kd.R_append k51 (w0 := w) w.heap.size rfl (.tmp 116) (.tmp 118) 40 51 (.agg #[(.string ⟨#[]⟩), (.int .i64 0), (.int .i64 0)]) 32 rfl Try.underlying40 info51 rfl (by decide) (by omega) u14 x14_2 (⟨((rd_T59 l1 x15_2).f0), x108001_3, x108002_3⟩ : S51) [.string ((rd_T59 l1 x15_2).f0), .int .i64 x108001_3, .int .i64 x108002_3] (fun k_ => k_ ≠ gb107) (fun _ => False) rfl rfl ?aP (fun _ hk => hk.elim) ?aF ?aO ?aB ?aS ?aL ?_; (case aP => exact k51_mkM _ _ _ (⟨((rd_T59 l1 x15_2).f0), x108001_3, x108002_3⟩ : S51)); (case aB => exact pof1_5); (case aF => exact (fun k_ hk => Kd.freshB (g := gb107) (o := .cells #[.string ((rd_T59 l1 x15_2).f0), .int .i64 x108001_3, .int .i64 x108002_3] 51 (0, 0)) pof1_6 k_ hk)); (case aO => exact pof1_4); (case aS => exact (below_size pof1_5)); (case aL => have := LMc46.out; omega); intro v122 w48 ho hb hg hat; rw [← Ny121.out] at ho; have n0_ := Aside0.mk (Kd.R_over' pof1_3 (Kd.R_typed pof1_4) (by decide) hg); have n1_ := Aside0.mk (blk_grown (g := gb107) (o := .cells #[.string ((rd_T59 l1 x15_2).f0), .int .i64 x108001_3, .int .i64 x108002_3] 51 (0, 0)) pof1_6 hg (Kd.R_away HO_14.out (fun _ hk => hk))); have n2_ := Aside0.mk (hb); have n3_ := Aside0.mk (ho); clear HO_12; clear BK107; clear HB; clear HO_14; have HO_12 := n0_; have BK107 := n1_; have HB := n2_; have HO123 := n3_; clear n0_ n1_ n2_ n3_; clear ho hb hg hat))
               go_roundg k3
               case measure => have := HK1.out; have := HK2.out; have := HK3.out; omega
               case rel => exact ⟨(x12_3), (y121), (wrap64 (x15_2 + 1)), prr1_0, H', ⟨pof1_7⟩, ⟨pof1_3⟩, ⟨by (with_reducible repeat (first | apply Kd.R_alloc | apply Kd.R_drewN | apply Kd.R_drew)); exact Kd.R_mono HO123.out (fun _ hk => trivial)⟩, ⟨pof1_5⟩⟩
              ·rw [if_neg c46] at H; exact absurd H (by simp)
             ·replace c45 := Bool.eq_false_iff.mpr c45; subst c45; have H1 : (accountingref25_Of.l1 k3 l0 l1 a2 a3 x12_3 x14_2 (wrap64 (x15_2 + 1))) = some (r1, r2, r3) := by rw [if_neg (show ¬ (false = true) by decide)] at H; exact H
              clear H; have H := H1; clear H1; have H' := Aside0.mk H; clear H
              go_wp2
              go_roundg k3
              case measure => have := HK1.out; have := HK2.out; have := HK3.out; omega
              case rel => exact ⟨(x12_3), (x14_2), (wrap64 (x15_2 + 1)), prr1_0, H', ⟨pof1_7⟩, ⟨pof1_3⟩, ⟨by (with_reducible repeat (first | apply Kd.R_alloc | apply Kd.R_drewN | apply Kd.R_drew)); exact Kd.R_mono HO_14.out (fun _ hk => trivial)⟩, ⟨pof1_5⟩⟩
        ·rw [if_neg c13] at H; exact absurd H (by simp)
       ·rw [if_neg c12] at H; have c12b0 : decide (x15_2 < (l1.length : Int)) = false := decide_eq_false c12; clear c12; simp only [Option.some.injEq, Prod.mk.injEq] at H; obtain ⟨rfl, rfl, rfl⟩ := H
        go_wp2
        go_ret3
        exact ⟨_, _, prr1_6, pof1_3, pof1_4, prr1_4⟩
 ·rw [if_neg c6] at H; have c6b0 : (t101 == 0) = false := beq_eq_false_iff_ne.mpr c6; have c6b1 : (t101 != 0) = true := bne_iff_ne.mpr c6; simp only [Option.some.injEq, Prod.mk.injEq] at H; obtain ⟨rfl, rfl, rfl⟩ := H; go_enter Try.func19, Try.ntmps19
  go_wp2_with (first | ((with_reducible refine gate_callee (f := 35) rfl ?_); refine goesL_ (some 25) rfl rfl Try.func35 (by kernel_rfl) rfl #[.slice A0 l0.length c0, .slice A1 l1.length c1, .int .i64 a2, .int .i64 a3] rfl prr1_2 ?_; (with_reducible refine (accountingref25_check.calls k _ _ l0 _ _ l1 a2 a3 t101 _ ?side1 ?side2 ?side3 ?side4 A5.out).mono ?_); (case side1 => repeat (first | exact HR0.out | (with_reducible refine Kd.C_alloc ?_ _) | (with_reducible refine Kd.C_drewN ?_ _) | (with_reducible refine Kd.C_drew ?_))); (case side2 => exact HC0.out); (case side3 => repeat (first | exact HR1.out | (with_reducible refine Kd.C_alloc ?_ _) | (with_reducible refine Kd.C_drewN ?_ _) | (with_reducible refine Kd.C_drew ?_))); (case side4 => exact HC1.out); rintro e w49 ⟨rfl, hb⟩; refine ⟨_, rfl, ?_⟩; have n0_ := Aside0.mk (below_step prr1_4 hb); clear HB; have HB := n0_; clear n0_; (try clear hb); (try clear hb2); (try clear hk); (try clear hi)))
  go_ret3
  exact ⟨_, _, prr1_6, pof1_2, pof1_2, prr1_4⟩
def accountinglaw25_TaxOf.f (k : Nat) (l0 : List (S49)) (l1 : List (S59)) (a2 : Int) (a3 : Int) : Option (Bool) := (accountinglaw25_large.f l0 l1).bind fun t101 => (if t101 = true then (some true) else ((tax_Of.f k l0 l1 a2 a3).bind fun bt102 => ((accountingref25_Of.f k l0 l1 a2 a3).bind fun bt109 => ((accountingref25_SameInts.f k bt102.1 bt109.1).bind fun t116 => (if t116 = true then ((accountingref25_Same.f k bt102.2.1 bt109.2.1).bind fun t117 => (if t117 = true then (if bt102.2.2 = bt109.2.2 then ((accountinglaw25_lives.f k).bind fun t118 => (some t118)) else (none)) else (none))) else (none))))))
theorem accountinglaw25_TaxOf.mono : ∀ a0 a1 a2 a3 k, LeO (accountinglaw25_TaxOf.f k a0 a1 a2 a3) (accountinglaw25_TaxOf.f (k + 1) a0 a1 a2 a3) := by
 intro a0 a1 a2 a3 k
 unfold accountinglaw25_TaxOf.f
 repeat' first
   | (with_reducible exact accountinglaw25_lives.mono _)
   | (with_reducible exact accountingref25_Of.mono _ _ _ _ _)
   | (with_reducible exact accountingref25_Same.mono _ _ _)
   | (with_reducible exact accountingref25_SameInts.mono _ _ _)
   | (with_reducible exact tax_Of.mono _ _ _ _ _)
   | (with_reducible exact LeO.refl _)
   | (with_reducible exact LeO.none _)
   | (with_reducible refine LeO.ite ?_ ?_)
   | (with_reducible refine LeO.bind ?_ (fun _ => ?_))
   | exact accountinglaw25_lives.mono _
   | exact accountingref25_Of.mono _ _ _ _ _
   | exact accountingref25_Same.mono _ _ _
   | exact accountingref25_SameInts.mono _ _ _
   | exact tax_Of.mono _ _ _ _ _
   | exact LeO.none _
   | refine LeO.ite ?_ ?_
   | refine LeO.bind ?_ (fun _ => ?_)
set_option maxHeartbeats 8000000 in
set_option maxRecDepth 100000 in
theorem accountinglaw25_TaxOf.calls (k : Nat) (A0 : Option Addr) (c0 : Nat) (l0 : List (S49)) (A1 : Option Addr) (c1 : Nat) (l1 : List (S59)) (a2 : Int) (a3 : Int) (r : Bool) (w : World) (hr0 : Kd.C k49 w A0 l0.length l0) (hc0 : l0.length ≤ c0) (hr1 : Kd.C k59 w A1 l1.length l1) (hc1 : l1.length ≤ c1) (h : accountinglaw25_TaxOf.f k l0 l1 a2 a3 = some r) :
    Calls Try.prog 7 #[.slice A0 l0.length c0, .slice A1 l1.length c1, .int .i64 a2, .int .i64 a3] w fun e w' => e = .returned (.bool r) ∧ Below w.heap.size w w' := by
 have HR0 := Aside0.mk hr0; have HC0 := Aside0.mk hc0; clear hr0 hc0; have HR1 := Aside0.mk hr1; have HC1 := Aside0.mk hc1; clear hr1 hc1; have HB := Aside0.mk (Below.refl w.heap.size w); have H : ((accountinglaw25_large.f l0 l1).bind fun t101 => (if t101 = true then (some true) else ((tax_Of.f k l0 l1 a2 a3).bind fun bt102 => ((accountingref25_Of.f k l0 l1 a2 a3).bind fun bt109 => ((accountingref25_SameInts.f k bt102.1 bt109.1).bind fun t116 => (if t116 = true then ((accountingref25_Same.f k bt102.2.1 bt109.2.1).bind fun t117 => (if t117 = true then (if bt102.2.2 = bt109.2.2 then ((accountinglaw25_lives.f k).bind fun t118 => (some t118)) else (none)) else (none))) else (none))))))) = some r := h; clear h; replace H := Option.bind_eq_some_iff.mp H; obtain ⟨t101, A50, H⟩ := H; replace H : (if t101 = true then (some true) else ((tax_Of.f k l0 l1 a2 a3).bind fun bt102 => ((accountingref25_Of.f k l0 l1 a2 a3).bind fun bt109 => ((accountingref25_SameInts.f k bt102.1 bt109.1).bind fun t116 => (if t116 = true then ((accountingref25_Same.f k bt102.2.1 bt109.2.1).bind fun t117 => (if t117 = true then (if bt102.2.2 = bt109.2.2 then ((accountinglaw25_lives.f k).bind fun t118 => (some t118)) else (none)) else (none))) else (none)))))) = some r := H; have A5 := Aside0.mk A50; clear A50
 by_cases c6 : t101 = true
 ·subst c6; have H1 : (some true) = some r := by rw [if_pos rfl] at H; exact H
  clear H; have H := H1; clear H1; obtain rfl := Option.some.inj H; go_enter Try.func7, Try.ntmps7
  go_wp2_with (first | ((with_reducible refine gate_callee (f := 17) rfl ?_); refine goesL_ (some 17) rfl rfl Try.func17 (by kernel_rfl) rfl #[.slice A0 l0.length c0, .slice A1 l1.length c1] rfl prr1_2 ?_; (with_reducible refine (accountinglaw25_large.calls _ _ l0 _ _ l1 true _ ?side1 ?side2 ?side3 ?side4 A5.out).mono ?_); (case side1 => repeat (first | exact HR0.out | (with_reducible refine Kd.C_alloc ?_ _) | (with_reducible refine Kd.C_drewN ?_ _) | (with_reducible refine Kd.C_drew ?_))); (case side2 => exact HC0.out); (case side3 => repeat (first | exact HR1.out | (with_reducible refine Kd.C_alloc ?_ _) | (with_reducible refine Kd.C_drewN ?_ _) | (with_reducible refine Kd.C_drew ?_))); (case side4 => exact HC1.out); rintro e w' ⟨rfl, ⟨nd, rfl⟩⟩; refine ⟨_, rfl, ?_⟩))
  go_ret
  exact ⟨prr1_6, prr1_4⟩
 ·replace c6 := Bool.eq_false_iff.mpr c6; subst c6; have H1 : ((tax_Of.f k l0 l1 a2 a3).bind fun bt102 => ((accountingref25_Of.f k l0 l1 a2 a3).bind fun bt109 => ((accountingref25_SameInts.f k bt102.1 bt109.1).bind fun t116 => (if t116 = true then ((accountingref25_Same.f k bt102.2.1 bt109.2.1).bind fun t117 => (if t117 = true then (if bt102.2.2 = bt109.2.2 then ((accountinglaw25_lives.f k).bind fun t118 => (some t118)) else (none)) else (none))) else (none))))) = some r := by rw [if_neg (show ¬ (false = true) by decide)] at H; exact H
  clear H; have H := H1; clear H1; replace H := Option.bind_eq_some_iff.mp H; obtain ⟨⟨t102, t103, t104⟩, A70, H⟩ := H; replace H : ((accountingref25_Of.f k l0 l1 a2 a3).bind fun bt109 => ((accountingref25_SameInts.f k t102 bt109.1).bind fun t116 => (if t116 = true then ((accountingref25_Same.f k t103 bt109.2.1).bind fun t117 => (if t117 = true then (if t104 = bt109.2.2 then ((accountinglaw25_lives.f k).bind fun t118 => (some t118)) else (none)) else (none))) else (none)))) = some r := H; have A7 := Aside0.mk A70; clear A70; replace H := Option.bind_eq_some_iff.mp H; obtain ⟨⟨t109, t110, t111⟩, A80, H⟩ := H; replace H : ((accountingref25_SameInts.f k t102 t109).bind fun t116 => (if t116 = true then ((accountingref25_Same.f k t103 t110).bind fun t117 => (if t117 = true then (if t104 = t111 then ((accountinglaw25_lives.f k).bind fun t118 => (some t118)) else (none)) else (none))) else (none))) = some r := H; have A8 := Aside0.mk A80; clear A80; replace H := Option.bind_eq_some_iff.mp H; obtain ⟨t116, A90, H⟩ := H; replace H : (if t116 = true then ((accountingref25_Same.f k t103 t110).bind fun t117 => (if t117 = true then (if t104 = t111 then ((accountinglaw25_lives.f k).bind fun t118 => (some t118)) else (none)) else (none))) else (none)) = some r := H; have A9 := Aside0.mk A90; clear A90
  by_cases c10 : t116 = true
  ·subst c10; have H1 : ((accountingref25_Same.f k t103 t110).bind fun t117 => (if t117 = true then (if t104 = t111 then ((accountinglaw25_lives.f k).bind fun t118 => (some t118)) else (none)) else (none))) = some r := by rw [if_pos rfl] at H; exact H
   clear H; have H := H1; clear H1; replace H := Option.bind_eq_some_iff.mp H; obtain ⟨t117, A110, H⟩ := H; replace H : (if t117 = true then (if t104 = t111 then ((accountinglaw25_lives.f k).bind fun t118 => (some t118)) else (none)) else (none)) = some r := H; have A11 := Aside0.mk A110; clear A110
   by_cases c12 : t117 = true
   ·subst c12; have H1 : (if t104 = t111 then ((accountinglaw25_lives.f k).bind fun t118 => (some t118)) else (none)) = some r := by rw [if_pos rfl] at H; exact H
    clear H; have H := H1; clear H1
    by_cases c13 : t104 = t111
    ·rw [if_pos c13] at H; have c13b0 : (t104 == t111) = true := beq_iff_eq.mpr c13; have c13b1 : (t104 != t111) = false := bne_eq_false_iff_eq.mpr c13; clear c13; replace H := Option.bind_eq_some_iff.mp H; obtain ⟨t118, A140, H⟩ := H; replace H : (some t118) = some r := H; have A14 := Aside0.mk A140; clear A140; obtain rfl := Option.some.inj H; go_enter Try.func7, Try.ntmps7
     go_wp2_with (first | ((with_reducible refine gate_callee (f := 17) rfl ?_); refine goesL_ (some 17) rfl rfl Try.func17 (by kernel_rfl) rfl #[.slice A0 l0.length c0, .slice A1 l1.length c1] rfl prr1_2 ?_; (with_reducible refine (accountinglaw25_large.calls _ _ l0 _ _ l1 false _ ?side1 ?side2 ?side3 ?side4 A5.out).mono ?_); (case side1 => repeat (first | exact HR0.out | (with_reducible refine Kd.C_alloc ?_ _) | (with_reducible refine Kd.C_drewN ?_ _) | (with_reducible refine Kd.C_drew ?_))); (case side2 => exact HC0.out); (case side3 => repeat (first | exact HR1.out | (with_reducible refine Kd.C_alloc ?_ _) | (with_reducible refine Kd.C_drewN ?_ _) | (with_reducible refine Kd.C_drew ?_))); (case side4 => exact HC1.out); rintro e w' ⟨rfl, ⟨nd, rfl⟩⟩; refine ⟨_, rfl, ?_⟩) | ((with_reducible refine gate_callee (f := 18) rfl ?_); refine goesL_ (some 23) rfl rfl Try.func18 (by kernel_rfl) rfl #[.slice A0 l0.length c0, .slice A1 l1.length c1, .int .i64 a2, .int .i64 a3] rfl prr1_2 ?_; (with_reducible refine (tax_Of.calls k _ _ l0 _ _ l1 a2 a3 t102 t103 t104 _ ?side1 ?side2 ?side3 ?side4 A7.out).mono ?_); (case side1 => repeat (first | exact HR0.out | (with_reducible refine Kd.C_alloc ?_ _) | (with_reducible refine Kd.C_drewN ?_ _) | (with_reducible refine Kd.C_drew ?_))); (case side2 => exact HC0.out); (case side3 => repeat (first | exact HR1.out | (with_reducible refine Kd.C_alloc ?_ _) | (with_reducible refine Kd.C_drewN ?_ _) | (with_reducible refine Kd.C_drew ?_))); (case side4 => exact HC1.out); rintro e w15 ⟨v105, v107, rfl, ho0, ho1, hb⟩; refine ⟨_, rfl, ?_⟩; have n0_ := Aside0.mk (Kd.R_lower ho0 (below_size prr1_4)); have n1_ := Aside0.mk (Kd.R_lower ho1 (below_size prr1_4)); have n2_ := Aside0.mk (below_step prr1_4 hb); clear HB; have HO106 := n0_; have HO108 := n1_; have HB := n2_; clear n0_ n1_ n2_; (try clear hb); (try clear hb2); (try clear hk); (try clear hi); (try clear ho0); (try clear ho1)) | ((with_reducible refine gate_callee (f := 19) rfl ?_); refine goesL_ (some 32) rfl rfl Try.func19 (by kernel_rfl) rfl #[.slice A0 l0.length c0, .slice A1 l1.length c1, .int .i64 a2, .int .i64 a3] rfl prr1_2 ?_; (with_reducible refine (accountingref25_Of.calls k _ _ l0 _ _ l1 a2 a3 t109 t110 t111 _ ?side1 ?side2 ?side3 ?side4 A8.out).mono ?_); (case side1 => repeat (first | exact (Kd.C_below HR0.out HB.out) | (with_reducible refine Kd.C_alloc ?_ _) | (with_reducible refine Kd.C_drewN ?_ _) | (with_reducible refine Kd.C_drew ?_))); (case side2 => exact HC0.out); (case side3 => repeat (first | exact (Kd.C_below HR1.out HB.out) | (with_reducible refine Kd.C_alloc ?_ _) | (with_reducible refine Kd.C_drewN ?_ _) | (with_reducible refine Kd.C_drew ?_))); (case side4 => exact HC1.out); rintro e w16 ⟨v112, v114, rfl, ho0, ho1, hb⟩; refine ⟨_, rfl, ?_⟩; have n0_ := Aside0.mk (Kd.R_elder' pof1_8 (Kd.R_base ho0) hb); have n1_ := Aside0.mk (Kd.R_elder' pof1_9 (Kd.R_base ho1) hb); have n2_ := Aside0.mk (Kd.R_lower (Kd.R_new' ho0 (Kd.R_lt pof1_8)) (below_size prr1_4)); have n3_ := Aside0.mk (Kd.R_lower (Kd.R_new' ho1 (Kd.R_lt pof1_9)) (below_size prr1_4)); have n4_ := Aside0.mk (below_step prr1_4 hb); clear HO106; clear HO108; clear HB; have HO106 := n0_; have HO108 := n1_; have HO113 := n2_; have HO115 := n3_; have HB := n4_; clear n0_ n1_ n2_ n3_ n4_; (try clear hb); (try clear hb2); (try clear hk); (try clear hi); (try clear ho0); (try clear ho1); obtain ⟨Ao17, co17, eo17⟩ := Kd.R_slice HO106.out; subst eo17; obtain ⟨Ao18, co18, eo18⟩ := Kd.R_slice HO113.out; subst eo18) | ((with_reducible refine gate_callee (f := 20) rfl ?_); refine goesL_ (some 38) rfl rfl Try.func20 (by kernel_rfl) rfl #[.slice Ao17 t102.length co17, .slice Ao18 t109.length co18] rfl prr1_2 ?_; (with_reducible refine (accountingref25_SameInts.calls k _ _ t102 _ _ t109 true _ ?side1 ?side2 ?side3 ?side4 A9.out).mono ?_); (case side1 => repeat (first | exact (Kd.R_reads' HO106.out).2.2 | (with_reducible refine Kd.C_alloc ?_ _) | (with_reducible refine Kd.C_drewN ?_ _) | (with_reducible refine Kd.C_drew ?_))); (case side2 => exact (Kd.R_reads' HO106.out).2.1); (case side3 => repeat (first | exact (Kd.R_reads' HO113.out).2.2 | (with_reducible refine Kd.C_alloc ?_ _) | (with_reducible refine Kd.C_drewN ?_ _) | (with_reducible refine Kd.C_drew ?_))); (case side4 => exact (Kd.R_reads' HO113.out).2.1); rintro e w' ⟨rfl, ⟨nd, rfl⟩⟩; refine ⟨_, rfl, ?_⟩; obtain ⟨Ao19, co19, eo19⟩ := Kd.R_slice HO108.out; subst eo19; obtain ⟨Ao20, co20, eo20⟩ := Kd.R_slice HO115.out; subst eo20) | (go_at_call 21; (with_reducible refine (accountingref25_Same.calls k _ _ t103 _ _ t110 true _ ?side1 ?side2 ?side3 ?side4 A11.out).mono ?_); (case side1 => repeat (first | exact (Kd.R_reads' HO108.out).2.2 | (with_reducible refine Kd.C_alloc ?_ _) | (with_reducible refine Kd.C_drewN ?_ _) | (with_reducible refine Kd.C_drew ?_))); (case side2 => exact (Kd.R_reads' HO108.out).2.1); (case side3 => repeat (first | exact (Kd.R_reads' HO115.out).2.2 | (with_reducible refine Kd.C_alloc ?_ _) | (with_reducible refine Kd.C_drewN ?_ _) | (with_reducible refine Kd.C_drew ?_))); (case side4 => exact (Kd.R_reads' HO115.out).2.1); rintro e w' ⟨rfl, ⟨nd, rfl⟩⟩) | (go_at_call 12; (with_reducible refine (accountinglaw25_lives.calls k  t118 _ A14.out).mono ?_); rintro e w21 ⟨rfl, hb⟩; have n0_ := Aside0.mk (Kd.R_below pof1_8 hb); have n1_ := Aside0.mk (Kd.R_below pof1_9 hb); have n2_ := Aside0.mk (Kd.R_below (by (with_reducible repeat (first | apply Kd.R_alloc | apply Kd.R_drewN | apply Kd.R_drew)); exact HO113.out) hb); have n3_ := Aside0.mk (Kd.R_below (by (with_reducible repeat (first | apply Kd.R_alloc | apply Kd.R_drewN | apply Kd.R_drew)); exact HO115.out) hb); have n4_ := Aside0.mk (below_step prr1_4 hb); clear HO106; clear HO108; clear HO113; clear HO115; clear HB; have HO106 := n0_; have HO108 := n1_; have HO113 := n2_; have HO115 := n3_; have HB := n4_; clear n0_ n1_ n2_ n3_ n4_; (try clear hb); (try clear hb2); (try clear hk); (try clear hi)))
     go_ret
     exact ⟨prr1_6, prr1_4⟩
    ·rw [if_neg c13] at H; exact absurd H (by simp)
   ·replace c12 := Bool.eq_false_iff.mpr c12; subst c12; have H1 : (none) = some r := by rw [if_neg (show ¬ (false = true) by decide)] at H; exact H
    clear H; have H := H1; clear H1; exact absurd H (by simp)
  ·replace c10 := Bool.eq_false_iff.mpr c10; subst c10; have H1 : (none) = some r := by rw [if_neg (show ¬ (false = true) by decide)] at H; exact H
   clear H; have H := H1; clear H1; exact absurd H (by simp)
end Go.Proofs.Ytgjpegmhlnabpaa.M
end
