/- The law of the movements, walked and shown. Part 2 of 4 of what is the claim's own. -/
import Derived.Test.YtegpappenmhndaaDoorQBB1
import Derived.Test.YtegpappenmhndaaDoorQBB2
import Derived.Test.YtegpappenmhndaaDoorQLa1
import Derived.Test.YtegpappenmhndaaDoorQBB6
import Derived.Test.YtegpappenmhndaaDoorQBB3
import Derived.Test.YtegpappenmhndaaDoorQBB7
namespace Go.Proofs.YtegpappenmhndaaDoor.M
theorem pla2_0 {p : Prop} (h : p := by have := HJ4.out; have := HJ13.out; have := HJ18.out; first | omega | exact Nat.le_refl _) : p := h
theorem pla2_1 {p : Prop} (h : p := by repeat (first | exact HR1.out | (with_reducible refine Kd.C_alloc ?_ _) | (with_reducible refine Kd.C_drewN ?_ _) | (with_reducible refine Kd.C_drew ?_))) : p := h
theorem pla2_2 {p : Prop} (h : p := by (with_reducible repeat (first | apply Kd.R_alloc | apply Kd.R_drewN | apply Kd.R_drew)); exact HO105.out) : p := h
theorem pla2_3 {p : Prop} (h : p := by (with_reducible repeat (first | apply Kd.R_alloc | apply Kd.R_drewN | apply Kd.R_drew)); exact Kd.R_mono HO_10.out (fun _ hk => ⟨trivial, hk⟩)) : p := h
theorem pla2_4 {p : Prop} (h : p := by (with_reducible repeat (first | apply Kd.R_alloc | apply Kd.R_drewN | apply Kd.R_drew)); exact Kd.R_mono HO_9.out (fun _ hk => ⟨trivial, hk⟩)) : p := h
theorem pla2_5 {p : Prop} (h : p := by (with_reducible repeat (first | apply Kd.R_alloc | apply Kd.R_drewN | apply Kd.R_drew)); exact HO_9.out) : p := h
theorem pla2_6 {p : Prop} (h : p := by have := HJ4.out; have := HK2.out; have := HK3.out; have := HK4.out; omega) : p := h
end Go.Proofs.YtegpappenmhndaaDoor.M
section
namespace Go.Proofs.YtegpappenmhndaaDoor.M
open Go.RowKit Go.Proofs.YtegpappenmhndaaDoorW.PrintWords Go.Proofs.YtegpappenmhndaaDoorW.PrintLast Go.Proofs.YtegpappenmhndaaDoorW.PrintMore
attribute [local go_sem] max2_int min2_int max_two min_two max_three min_three max_four min_four
set_option linter.unusedVariables false
set_option linter.unusedSimpArgs false
mutual
def F58.j0 : Nat → List Int → Bool → Option (Int × Int)
  | 0, _, _ => none
  | k + 1, x1, x17 => if x17 = true then (some (0, 4)) else (F58.l0 k x1 0)
def F58.l0 : Nat → List Int → Int → Option (Int × Int)
  | 0, _, _ => none
  | k + 1, x1, x6 => if x6 < (x1.length : Int) then (if 0 ≤ x6 then (if (rd x1 x6) < 0 then (some (0, 2)) else (F58.l0 k x1 (wrap64 (x6 + 1)))) else (none)) else (F58.l1 k x1 0 0)
def F58.l1 : Nat → List Int → Int → Int → Option (Int × Int)
  | 0, _, _, _ => none
  | k + 1, x1, x7, x8 => if x8 < (x1.length : Int) then (if 0 ≤ x8 then (if (rd x1 x8) > (wrap64 (1000000000000000 - x7)) then (some (0, 4)) else (F58.l1 k x1 (wrap64 (x7 + (rd x1 x8))) (wrap64 (x8 + 1)))) else (none)) else (if x7 = 0 then (some (0, 2)) else (some (x7, 0)))
end
def F58.f (k : Nat) (a0 : Int) (l1 : List Int) : Option (Int × Int) := if (l1.length : Int) > 200 then (some (0, 9)) else (if a0 > 1000000000000000 then (F58.j0 k l1 true) else (F58.j0 k l1 (decide (a0 < (-1000000000000000)))))
set_option maxHeartbeats 8000000 in
set_option maxRecDepth 100000 in
theorem F58.calls (k : Nat) (a0 : Int) (A1 : Option Addr) (c1 : Nat) (l1 : List Int) (r1 : Int) (r2 : Int) (w : World) (hr1 : Kd.C (Kd.int .i64) w A1 l1.length l1) (hc1 : l1.length ≤ c1) (h : F58.f k a0 l1 = some (r1, r2)) :
    Calls Tryd.prog 58 #[.int .i64 a0, .slice A1 l1.length c1] w fun e w' => e = .returned (.tuple #[.int .i64 r1, .int .i64 r2]) ∧ Drawn0 w w' := by
 have hu3 := Tryd.underlying3; have HR1 := Aside0.mk hr1; have HC1 := Aside0.mk hc1; clear hr1 hc1
 unfold F58.f at h
 have H := h; clear h
 by_cases c3 : (l1.length : Int) > 200
 ·rw [if_pos c3] at H; have c3b0 : decide (200 < (l1.length : Int)) = true := decide_eq_true c3; have c3b1 : decide (200 < l1.length) = true := decide_eq_true (by omega); clear c3; simp only [Option.some.injEq, Prod.mk.injEq] at H; obtain ⟨rfl, rfl⟩ := H; go_enter Tryd.func58, Tryd.ntmps58
  go_wp2
  go_ret2
  exact ⟨pbb2_0, pbb2_1⟩
 ·rw [if_neg c3] at H; have c3b0 : decide (200 < (l1.length : Int)) = false := decide_eq_false c3; have c3b1 : decide (200 < l1.length) = false := decide_eq_false (by omega); clear c3; have HC4 := Aside0.mk H; clear H; go_enter Tryd.func58, Tryd.ntmps58
  go_upto_region 3 with (fail)
  go_cut [17] (fun v17 wc => ∃ (kq : Nat) (x17_3 : Bool), v17 = .bool x17_3 ∧ Aside0 (F58.j0 kq l1 x17_3 = some (r1, r2)) ∧ Aside0 (kq ≤ k) ∧ Drawn0 w wc)
  case first =>
   have H := HC4.out; clear HC4
   by_cases c5 : a0 > 1000000000000000
   ·rw [if_pos c5] at H; have c5b0 : decide (1000000000000000 < a0) = true := decide_eq_true c5; clear c5; (first | rw [c5b0] | (simp only [i64_w, i32_w]; rw [c5b0]) | skip); have H' := Aside0.mk H; clear H
    go_wp2
    go_meet
    case rel => exact ⟨_, (true), pbb2_0, H', ⟨pla1_0⟩, pbb2_1⟩
   ·rw [if_neg c5] at H; have c5b0 : decide (1000000000000000 < a0) = false := decide_eq_false c5; clear c5; (first | rw [c5b0] | (simp only [i64_w, i32_w]; rw [c5b0]) | skip); have H' := Aside0.mk H; clear H
    go_wp2
    go_meet
    case rel => exact ⟨_, (decide (a0 < (-1000000000000000))), pbb2_0, H', ⟨pla1_0⟩, pbb2_1⟩
  case rest =>
   clear HC4; obtain ⟨kq, x17_3, rfl, HA, HJ3, ⟨mc3, rfl⟩⟩ := hcut
   cases kq with
   | zero => exact absurd HA.out (by simp [F58.j0])
   | succ kj3 =>
    have H := HA.out; clear HA; simp only [F58.j0] at H
    by_cases c6 : x17_3 = true
    ·subst c6; rw [if_pos rfl] at H; simp only [Option.some.injEq, Prod.mk.injEq] at H; obtain ⟨rfl, rfl⟩ := H
     go_wp2
     go_ret2
     exact ⟨pbb2_0, pbb2_1⟩
    ·replace c6 := Bool.eq_false_iff.mpr c6; subst c6; rw [if_neg (show ¬ (false = true) by decide)] at H; have H' := Aside0.mk H; clear H
     go_wp2
     go_loopg [6] kj3 (fun kq v6 w' => ∃ (x6_2 : Int), v6 = .int .i64 x6_2 ∧ Aside0 (F58.l0 kq l1 x6_2 = some (r1, r2)) ∧ Aside0 (kq ≤ kj3) ∧ Drawn0 w w')
     case atStart => exact ⟨(0), pbb2_0, H', ⟨Nat.le_refl _⟩, pbb2_1⟩
     case round =>
      clear H'; obtain ⟨x6_2, rfl, HA, HK2, ⟨m2, rfl⟩⟩ := hrel
      cases gk with
      | zero => exact absurd HA.out (by simp [F58.l0])
      | succ k2 =>
       have H := HA.out; clear HA; simp only [F58.l0] at H
       by_cases c7 : x6_2 < (l1.length : Int)
       ·rw [if_pos c7] at H; have c7b0 := decide_eq_true c7; clear c7
        by_cases c8 : 0 ≤ x6_2
        ·rw [if_pos c8] at H; have c8b0 := decide_eq_true c8; clear c8
         by_cases c9 : (rd l1 x6_2) < 0
         ·rw [if_pos c9] at H; have c9b0 := decide_eq_true c9; clear c9; simp only [Option.some.injEq, Prod.mk.injEq] at H; obtain ⟨rfl, rfl⟩ := H; have p101 : 0 ≤ (x6_2 : Int) := of_decide_eq_true pbb2_4; have q101 : x6_2 < (l1.length : Int) := of_decide_eq_true pbb2_4; obtain ⟨ad101, e101, hx101_0⟩ := Kd.at_int HR1.out x6_2 p101 q101
          cases e101
          replace p101 := eq_true p101; replace q101 := eq_true q101
          go_wp2
          go_ret2
          exact ⟨pbb2_0, pbb2_1⟩
         ·rw [if_neg c9] at H; have c9b0 := decide_eq_false c9; clear c9; have H' := Aside0.mk H; clear H; have p101 : 0 ≤ (x6_2 : Int) := of_decide_eq_true pbb2_4; have q101 : x6_2 < (l1.length : Int) := of_decide_eq_true pbb2_4; obtain ⟨ad101, e101, hx101_0⟩ := Kd.at_int HR1.out x6_2 p101 q101
          cases e101
          replace p101 := eq_true p101; replace q101 := eq_true q101
          go_wp2
          go_roundg k2
          case measure => have := HJ3.out; have := HK2.out; omega
          case rel => exact ⟨(wrap64 (x6_2 + 1)), pbb2_0, H', ⟨by have := HJ3.out; have := HK2.out; omega⟩, pbb2_1⟩
        ·rw [if_neg c8] at H; exact absurd H (by simp)
       ·rw [if_neg c7] at H; have c7b0 := decide_eq_false c7; clear c7; have H' := Aside0.mk H; clear H
        go_wp2
        go_loopg [7, 8] k2 (fun kq v7 v8 w' => ∃ (x7_3 : Int) (x8_3 : Int), v7 = .int .i64 x7_3 ∧ v8 = .int .i64 x8_3 ∧ Aside0 (F58.l1 kq l1 x7_3 x8_3 = some (r1, r2)) ∧ Aside0 (kq ≤ k2) ∧ Drawn0 w w')
        case atStart => exact ⟨(0), (0), pbb2_0, pbb2_0, H', ⟨Nat.le_refl _⟩, pbb2_1⟩
        case round =>
         clear H'; obtain ⟨x7_3, x8_3, rfl, rfl, HA, HK3, ⟨m3, rfl⟩⟩ := hrel
         cases gk with
         | zero => exact absurd HA.out (by simp [F58.l1])
         | succ k3 =>
          have H := HA.out; clear HA; simp only [F58.l1] at H
          by_cases c10 : x8_3 < (l1.length : Int)
          ·rw [if_pos c10] at H; have c10b0 := decide_eq_true c10; clear c10
           by_cases c11 : 0 ≤ x8_3
           ·rw [if_pos c11] at H; have c11b0 := decide_eq_true c11; clear c11
            by_cases c12 : (rd l1 x8_3) > (wrap64 (1000000000000000 - x7_3))
            ·rw [if_pos c12] at H; have c12b0 : decide ((wrap64 (1000000000000000 - x7_3)) < (rd l1 x8_3)) = true := decide_eq_true c12; clear c12; simp only [Option.some.injEq, Prod.mk.injEq] at H; obtain ⟨rfl, rfl⟩ := H; have p102 : 0 ≤ (x8_3 : Int) := of_decide_eq_true pbb2_4; have q102 : x8_3 < (l1.length : Int) := of_decide_eq_true pbb2_4; obtain ⟨ad102, e102, hx102_0⟩ := Kd.at_int HR1.out x8_3 p102 q102
             cases e102
             replace p102 := eq_true p102; replace q102 := eq_true q102
             go_wp2
             go_ret2
             exact ⟨pbb2_0, pbb2_1⟩
            ·rw [if_neg c12] at H; have c12b0 : decide ((wrap64 (1000000000000000 - x7_3)) < (rd l1 x8_3)) = false := decide_eq_false c12; clear c12; have H' := Aside0.mk H; clear H; have p102 : 0 ≤ (x8_3 : Int) := of_decide_eq_true pbb2_4; have q102 : x8_3 < (l1.length : Int) := of_decide_eq_true pbb2_4; obtain ⟨ad102, e102, hx102_0⟩ := Kd.at_int HR1.out x8_3 p102 q102
             cases e102
             replace p102 := eq_true p102; replace q102 := eq_true q102; have p103 : 0 ≤ (x8_3 : Int) := of_decide_eq_true pbb2_4; have q103 : x8_3 < (l1.length : Int) := of_decide_eq_true pbb2_4; obtain ⟨ad103, e103, hx103_0⟩ := Kd.at_int HR1.out x8_3 p103 q103; obtain rfl : ad102 = ad103 := (by injection e103); replace p103 := eq_true p103; replace q103 := eq_true q103
             go_wp2
             go_roundg k3
             case measure => have := HJ3.out; have := HK2.out; have := HK3.out; omega
             case rel => exact ⟨(wrap64 (x7_3 + (rd l1 x8_3))), (wrap64 (x8_3 + 1)), pbb2_0, pbb2_0, H', ⟨by have := HJ3.out; have := HK2.out; have := HK3.out; omega⟩, pbb2_1⟩
           ·rw [if_neg c11] at H; exact absurd H (by simp)
          ·rw [if_neg c10] at H; have c10b0 := decide_eq_false c10; clear c10
           by_cases c13 : x7_3 = 0
           ·rw [if_pos c13] at H; have c13b0 := bT_ c13; have c13b1 := bF_ c13; clear c13; simp only [Option.some.injEq, Prod.mk.injEq] at H; obtain ⟨rfl, rfl⟩ := H
            go_wp2
            go_ret2
            exact ⟨pbb2_0, pbb2_1⟩
           ·rw [if_neg c13] at H; have c13b0 := nF_ c13; have c13b1 := nT_ c13; simp only [Option.some.injEq, Prod.mk.injEq] at H; obtain ⟨rfl, rfl⟩ := H
            go_wp2
            go_ret2
            exact ⟨pbb2_0, pbb2_1⟩
def F69.f (a0 : Int) (a1 : Int) : Option (Int × Int) := some (IntKind.u64.wrap ((IntKind.u64.wrap ((IntKind.u64.wrap ((IntKind.u64.wrap (Int.tdiv a0 4294967296)) * (IntKind.u64.wrap (Int.tdiv a1 4294967296)))) + (IntKind.u64.wrap (Int.tdiv (IntKind.u64.wrap ((IntKind.u64.wrap ((IntKind.u64.wrap (Int.tdiv a0 4294967296)) * (Int.tmod a1 4294967296))) + (IntKind.u64.wrap (Int.tdiv (IntKind.u64.wrap ((Int.tmod a0 4294967296) * (Int.tmod a1 4294967296))) 4294967296)))) 4294967296)))) + (IntKind.u64.wrap (Int.tdiv (IntKind.u64.wrap ((IntKind.u64.wrap ((Int.tmod a0 4294967296) * (IntKind.u64.wrap (Int.tdiv a1 4294967296)))) + (Int.tmod (IntKind.u64.wrap ((IntKind.u64.wrap ((IntKind.u64.wrap (Int.tdiv a0 4294967296)) * (Int.tmod a1 4294967296))) + (IntKind.u64.wrap (Int.tdiv (IntKind.u64.wrap ((Int.tmod a0 4294967296) * (Int.tmod a1 4294967296))) 4294967296)))) 4294967296))) 4294967296))), IntKind.u64.wrap ((IntKind.u64.wrap ((Int.tmod (IntKind.u64.wrap ((IntKind.u64.wrap ((Int.tmod a0 4294967296) * (IntKind.u64.wrap (Int.tdiv a1 4294967296)))) + (Int.tmod (IntKind.u64.wrap ((IntKind.u64.wrap ((IntKind.u64.wrap (Int.tdiv a0 4294967296)) * (Int.tmod a1 4294967296))) + (IntKind.u64.wrap (Int.tdiv (IntKind.u64.wrap ((Int.tmod a0 4294967296) * (Int.tmod a1 4294967296))) 4294967296)))) 4294967296))) 4294967296) * 4294967296)) + (Int.tmod (IntKind.u64.wrap ((Int.tmod a0 4294967296) * (Int.tmod a1 4294967296))) 4294967296)))
set_option maxHeartbeats 8000000 in
set_option maxRecDepth 100000 in
theorem F69.calls (a0 : Int) (a1 : Int) (r1 : Int) (r2 : Int) (w : World) (h : F69.f a0 a1 = some (r1, r2)) :
    Calls Tryd.prog 69 #[.int .u64 a0, .int .u64 a1] w fun e w' => e = .returned (.tuple #[.int .u64 r1, .int .u64 r2]) ∧ Drawn0 w w' := by
 unfold F69.f at h
 have H := h; clear h; simp only [Option.some.injEq, Prod.mk.injEq] at H; obtain ⟨rfl, rfl⟩ := H; go_enter Tryd.func69, Tryd.ntmps69
 go_wp2
 go_ret2
 exact ⟨pbb2_0, pbb2_1⟩
def F70.f (a0 : Int) : Option (Int) := if a0 < 0 then (some (IntKind.u64.wrap ((IntKind.u64.wrap (wrap64 (-(wrap64 (a0 + 1))))) + 1))) else (some (IntKind.u64.wrap (a0)))
set_option maxHeartbeats 8000000 in
set_option maxRecDepth 100000 in
theorem F70.calls (a0 : Int) (r : Int) (w : World) (h : F70.f a0 = some r) :
    Calls Tryd.prog 70 #[.int .i64 a0] w fun e w' => e = .returned (.int .u64 r) ∧ Drawn0 w w' := by
 unfold F70.f at h
 have H := h; clear h
 by_cases c2 : a0 < 0
 ·rw [if_pos c2] at H; have c2b0 := decide_eq_true c2; clear c2; obtain rfl := Option.some.inj H; go_enter Tryd.func70, Tryd.ntmps70
  go_wp2
  go_ret
  exact ⟨pbb2_0, pbb2_1⟩
 ·rw [if_neg c2] at H; have c2b0 := decide_eq_false c2; clear c2; obtain rfl := Option.some.inj H; go_enter Tryd.func70, Tryd.ntmps70
  go_wp2
  go_ret
  exact ⟨pbb2_0, pbb2_1⟩
def F71.l0 : Nat → Int → Int → Int → Int → Int → Int → Int → Option (Int × Int × Int)
  | 0, _, _, _, _, _, _, _ => none
  | k + 1, x0, x1, x2, x9, x10, x11, x12 => if x12 < 128 then (if x11 ≥ 9223372036854775808 then (F71.l0 k (IntKind.u64.wrap ((IntKind.u64.wrap (2 * x0)) + (IntKind.u64.wrap (Int.tdiv x1 9223372036854775808)))) (IntKind.u64.wrap (2 * x1)) x2 (IntKind.u64.wrap ((IntKind.u64.wrap (2 * x9)) + (IntKind.u64.wrap (Int.tdiv x10 9223372036854775808)))) (IntKind.u64.wrap ((IntKind.u64.wrap (2 * x10)) + 1)) (IntKind.u64.wrap ((IntKind.u64.wrap ((IntKind.u64.wrap (2 * x11)) + (IntKind.u64.wrap (Int.tdiv x0 9223372036854775808)))) - x2)) (wrap64 (x12 + 1))) else (if (IntKind.u64.wrap ((IntKind.u64.wrap (2 * x11)) + (IntKind.u64.wrap (Int.tdiv x0 9223372036854775808)))) ≥ x2 then (F71.l0 k (IntKind.u64.wrap ((IntKind.u64.wrap (2 * x0)) + (IntKind.u64.wrap (Int.tdiv x1 9223372036854775808)))) (IntKind.u64.wrap (2 * x1)) x2 (IntKind.u64.wrap ((IntKind.u64.wrap (2 * x9)) + (IntKind.u64.wrap (Int.tdiv x10 9223372036854775808)))) (IntKind.u64.wrap ((IntKind.u64.wrap (2 * x10)) + 1)) (IntKind.u64.wrap ((IntKind.u64.wrap ((IntKind.u64.wrap (2 * x11)) + (IntKind.u64.wrap (Int.tdiv x0 9223372036854775808)))) - x2)) (wrap64 (x12 + 1))) else (F71.l0 k (IntKind.u64.wrap ((IntKind.u64.wrap (2 * x0)) + (IntKind.u64.wrap (Int.tdiv x1 9223372036854775808)))) (IntKind.u64.wrap (2 * x1)) x2 (IntKind.u64.wrap ((IntKind.u64.wrap (2 * x9)) + (IntKind.u64.wrap (Int.tdiv x10 9223372036854775808)))) (IntKind.u64.wrap (2 * x10)) (IntKind.u64.wrap ((IntKind.u64.wrap (2 * x11)) + (IntKind.u64.wrap (Int.tdiv x0 9223372036854775808)))) (wrap64 (x12 + 1))))) else (some (x9, x10, x11))
def F71.f (k : Nat) (a0 : Int) (a1 : Int) (a2 : Int) : Option (Int × Int × Int) := F71.l0 k a0 a1 a2 0 0 0 0
set_option maxHeartbeats 8000000 in
set_option maxRecDepth 100000 in
theorem F71.calls (k : Nat) (a0 : Int) (a1 : Int) (a2 : Int) (r1 : Int) (r2 : Int) (r3 : Int) (w : World) (h : F71.f k a0 a1 a2 = some (r1, r2, r3)) :
    Calls Tryd.prog 71 #[.int .u64 a0, .int .u64 a1, .int .u64 a2] w fun e w' => e = .returned (.tuple #[.int .u64 r1, .int .u64 r2, .int .u64 r3]) ∧ Drawn0 w w' := by
 unfold F71.f at h
 have H := h; clear h; have H' := Aside0.mk H; clear H; go_enter Tryd.func71, Tryd.ntmps71
 go_wp2
 go_loopg [0, 1, 9, 10, 11, 12] k (fun kq v0 v1 v9 v10 v11 v12 w' => ∃ (x0_1 : Int) (x1_1 : Int) (x9_1 : Int) (x10_1 : Int) (x11_1 : Int) (x12_1 : Int), v0 = .int .u64 x0_1 ∧ v1 = .int .u64 x1_1 ∧ v9 = .int .u64 x9_1 ∧ v10 = .int .u64 x10_1 ∧ v11 = .int .u64 x11_1 ∧ v12 = .int .i64 x12_1 ∧ Aside0 (F71.l0 kq x0_1 x1_1 a2 x9_1 x10_1 x11_1 x12_1 = some (r1, r2, r3)) ∧ Aside0 (kq ≤ k) ∧ Drawn0 w w')
 case atStart => exact ⟨(a0), (a1), (0), (0), (0), (0), pbb2_0, pbb2_0, pbb2_0, pbb2_0, pbb2_0, pbb2_0, H', ⟨Nat.le_refl _⟩, pbb2_1⟩
 case round =>
  clear H'; obtain ⟨x0_1, x1_1, x9_1, x10_1, x11_1, x12_1, rfl, rfl, rfl, rfl, rfl, rfl, HA, HK1, ⟨m1, rfl⟩⟩ := hrel
  cases gk with
  | zero => exact absurd HA.out (by simp [F71.l0])
  | succ k1 =>
   have H := HA.out; clear HA; simp only [F71.l0] at H
   by_cases c4 : x12_1 < 128
   ·rw [if_pos c4] at H; have c4b0 := decide_eq_true c4; clear c4
    by_cases c5 : x11_1 ≥ 9223372036854775808
    ·rw [if_pos c5] at H; have c5b0 : decide (9223372036854775808 ≤ x11_1) = true := decide_eq_true c5; clear c5; have H' := Aside0.mk H; clear H
     go_wp2
     go_roundg k1
     case measure => have := HK1.out; omega
     case rel => exact ⟨(IntKind.u64.wrap ((IntKind.u64.wrap (2 * x0_1)) + (IntKind.u64.wrap (Int.tdiv x1_1 9223372036854775808)))), (IntKind.u64.wrap (2 * x1_1)), (IntKind.u64.wrap ((IntKind.u64.wrap (2 * x9_1)) + (IntKind.u64.wrap (Int.tdiv x10_1 9223372036854775808)))), (IntKind.u64.wrap ((IntKind.u64.wrap (2 * x10_1)) + 1)), (IntKind.u64.wrap ((IntKind.u64.wrap ((IntKind.u64.wrap (2 * x11_1)) + (IntKind.u64.wrap (Int.tdiv x0_1 9223372036854775808)))) - a2)), (wrap64 (x12_1 + 1)), pbb2_0, pbb2_0, pbb2_0, pbb2_0, pbb2_0, pbb2_0, H', ⟨pbb6_1⟩, pbb2_1⟩
    ·rw [if_neg c5] at H; have c5b0 : decide (9223372036854775808 ≤ x11_1) = false := decide_eq_false c5; clear c5
     by_cases c6 : (IntKind.u64.wrap ((IntKind.u64.wrap (2 * x11_1)) + (IntKind.u64.wrap (Int.tdiv x0_1 9223372036854775808)))) ≥ a2
     ·rw [if_pos c6] at H; have c6b0 : decide (a2 ≤ (IntKind.u64.wrap ((IntKind.u64.wrap (2 * x11_1)) + (IntKind.u64.wrap (Int.tdiv x0_1 9223372036854775808))))) = true := decide_eq_true c6; clear c6; have H' := Aside0.mk H; clear H
      go_wp2
      go_roundg k1
      case measure => have := HK1.out; omega
      case rel => exact ⟨(IntKind.u64.wrap ((IntKind.u64.wrap (2 * x0_1)) + (IntKind.u64.wrap (Int.tdiv x1_1 9223372036854775808)))), (IntKind.u64.wrap (2 * x1_1)), (IntKind.u64.wrap ((IntKind.u64.wrap (2 * x9_1)) + (IntKind.u64.wrap (Int.tdiv x10_1 9223372036854775808)))), (IntKind.u64.wrap ((IntKind.u64.wrap (2 * x10_1)) + 1)), (IntKind.u64.wrap ((IntKind.u64.wrap ((IntKind.u64.wrap (2 * x11_1)) + (IntKind.u64.wrap (Int.tdiv x0_1 9223372036854775808)))) - a2)), (wrap64 (x12_1 + 1)), pbb2_0, pbb2_0, pbb2_0, pbb2_0, pbb2_0, pbb2_0, H', ⟨pbb6_1⟩, pbb2_1⟩
     ·rw [if_neg c6] at H; have c6b0 : decide (a2 ≤ (IntKind.u64.wrap ((IntKind.u64.wrap (2 * x11_1)) + (IntKind.u64.wrap (Int.tdiv x0_1 9223372036854775808))))) = false := decide_eq_false c6; clear c6; have H' := Aside0.mk H; clear H
      go_wp2
      go_roundg k1
      case measure => have := HK1.out; omega
      case rel => exact ⟨(IntKind.u64.wrap ((IntKind.u64.wrap (2 * x0_1)) + (IntKind.u64.wrap (Int.tdiv x1_1 9223372036854775808)))), (IntKind.u64.wrap (2 * x1_1)), (IntKind.u64.wrap ((IntKind.u64.wrap (2 * x9_1)) + (IntKind.u64.wrap (Int.tdiv x10_1 9223372036854775808)))), (IntKind.u64.wrap (2 * x10_1)), (IntKind.u64.wrap ((IntKind.u64.wrap (2 * x11_1)) + (IntKind.u64.wrap (Int.tdiv x0_1 9223372036854775808)))), (wrap64 (x12_1 + 1)), pbb2_0, pbb2_0, pbb2_0, pbb2_0, pbb2_0, pbb2_0, H', ⟨pbb6_1⟩, pbb2_1⟩
   ·rw [if_neg c4] at H; have c4b0 := decide_eq_false c4; clear c4; simp only [Option.some.injEq, Prod.mk.injEq] at H; obtain ⟨rfl, rfl, rfl⟩ := H
    go_wp2
    go_ret3
    exact ⟨pbb2_0, pbb2_1⟩
def F72.f (a0 : Int) (a1 : Bool) (a2 : Bool) (a3 : Int) (a4 : Int) : Option (Bool) := if a0 = 2 then (some (decide (a3 > 0))) else (if a0 = 3 then (some (decide (a3 ≥ (IntKind.u64.wrap (a4 - a3))))) else (if a0 = 4 then (if a3 > (IntKind.u64.wrap (a4 - a3)) then (some true) else (if a3 = (IntKind.u64.wrap (a4 - a3)) then (some a2) else (some false))) else (if a0 = 5 then (if a1 = true then (some (decide (a3 > 0))) else (some false)) else (some false))))
set_option maxHeartbeats 8000000 in
set_option maxRecDepth 100000 in
theorem F72.calls (a0 : Int) (a1 : Bool) (a2 : Bool) (a3 : Int) (a4 : Int) (r : Bool) (w : World) (h : F72.f a0 a1 a2 a3 a4 = some r) :
    Calls Tryd.prog 72 #[.int .i64 a0, .bool a1, .bool a2, .int .u64 a3, .int .u64 a4] w fun e w' => e = .returned (.bool r) ∧ Drawn0 w w' := by
 unfold F72.f at h
 have H := h; clear h
 by_cases c6 : a0 = 2
 ·rw [if_pos c6] at H; have c6b0 := bT_ c6; have c6b1 := bF_ c6; clear c6; obtain rfl := Option.some.inj H; go_enter Tryd.func72, Tryd.ntmps72
  go_wp2
  go_ret
  exact ⟨pbb2_0, pbb2_1⟩
 ·rw [if_neg c6] at H; have c6b0 := nF_ c6; have c6b1 := nT_ c6
  by_cases c7 : a0 = 3
  ·rw [if_pos c7] at H; have c7b0 := bT_ c7; have c7b1 := bF_ c7; clear c7; obtain rfl := Option.some.inj H; go_enter Tryd.func72, Tryd.ntmps72
   go_wp2
   go_ret
   exact ⟨pbb2_0, pbb2_1⟩
  ·rw [if_neg c7] at H; have c7b0 := nF_ c7; have c7b1 := nT_ c7
   by_cases c8 : a0 = 4
   ·rw [if_pos c8] at H; have c8b0 := bT_ c8; have c8b1 := bF_ c8; clear c8
    by_cases c9 : a3 > (IntKind.u64.wrap (a4 - a3))
    ·rw [if_pos c9] at H; have c9b0 : decide ((IntKind.u64.wrap (a4 - a3)) < a3) = true := decide_eq_true c9; clear c9; obtain rfl := Option.some.inj H; go_enter Tryd.func72, Tryd.ntmps72
     go_wp2
     go_ret
     exact ⟨pbb2_0, pbb2_1⟩
    ·rw [if_neg c9] at H; have c9b0 : decide ((IntKind.u64.wrap (a4 - a3)) < a3) = false := decide_eq_false c9; clear c9
     by_cases c10 : a3 = (IntKind.u64.wrap (a4 - a3))
     ·rw [if_pos c10] at H; have c10b0 := bT_ c10; have c10b1 := bF_ c10; clear c10; obtain rfl := Option.some.inj H; go_enter Tryd.func72, Tryd.ntmps72
      go_wp2
      go_ret
      exact ⟨pbb2_0, pbb2_1⟩
     ·rw [if_neg c10] at H; have c10b0 := nF_ c10; have c10b1 := nT_ c10; obtain rfl := Option.some.inj H; go_enter Tryd.func72, Tryd.ntmps72
      go_wp2
      go_ret
      exact ⟨pbb2_0, pbb2_1⟩
   ·rw [if_neg c8] at H; have c8b0 := nF_ c8; have c8b1 := nT_ c8
    by_cases c11 : a0 = 5
    ·rw [if_pos c11] at H; have c11b0 := bT_ c11; have c11b1 := bF_ c11; clear c11
     by_cases c12 : a1 = true
     ·subst c12; rw [if_pos rfl] at H; obtain rfl := Option.some.inj H; go_enter Tryd.func72, Tryd.ntmps72
      go_wp2
      go_ret
      exact ⟨pbb2_0, pbb2_1⟩
     ·replace c12 := Bool.eq_false_iff.mpr c12; subst c12; rw [if_neg (show ¬ (false = true) by decide)] at H; obtain rfl := Option.some.inj H; go_enter Tryd.func72, Tryd.ntmps72
      go_wp2
      go_ret
      exact ⟨pbb2_0, pbb2_1⟩
    ·rw [if_neg c11] at H; have c11b0 := nF_ c11; have c11b1 := nT_ c11; obtain rfl := Option.some.inj H; go_enter Tryd.func72, Tryd.ntmps72
     go_wp2
     go_ret
     exact ⟨pbb2_0, pbb2_1⟩
mutual
def F59.j0 : Nat → Int → Int → Int → Int → Bool → Option (Int × Int)
  | 0, _, _, _, _, _ => none
  | k + 1, x0, x1, x2, x3, x21 => if x21 = true then (some (0, 10)) else (if x2 = 0 then (some (0, 2)) else ((F70.f x0).bind fun t101 => ((F70.f x1).bind fun t102 => ((F69.f t101 t102).bind fun bt103 => ((F70.f x2).bind fun t105 => ((F71.f k bt103.1 bt103.2 t105).bind fun bt106 => (if bt106.1 > 0 then (F59.j1 k x2 x3 bt106.2.1 bt106.2.2 (((decide (x0 < 0)) != (decide (x1 < 0))) != (decide (x2 < 0))) true) else (F59.j1 k x2 x3 bt106.2.1 bt106.2.2 (((decide (x0 < 0)) != (decide (x1 < 0))) != (decide (x2 < 0))) (decide (bt106.2.1 > 9223372036854775808))))))))))
def F59.j1 : Nat → Int → Int → Int → Int → Bool → Bool → Option (Int × Int)
  | 0, _, _, _, _, _, _ => none
  | k + 1, x2, x3, x13, x14, x15, x54 => if x54 = true then (some (0, 4)) else ((F70.f x2).bind fun t109 => ((F72.f x3 x15 ((Int.tmod x13 2) == 1) x14 t109).bind fun t110 => (if t110 = true then (F59.j2 k (IntKind.u64.wrap (x13 + 1)) x15) else (F59.j2 k x13 x15))))
def F59.j2 : Nat → Int → Bool → Option (Int × Int)
  | 0, _, _ => none
  | k + 1, x13, x15 => if x13 > 9223372036854775808 then (F59.j3 k x13 x15 true) else (if x13 = 9223372036854775808 then (F59.j3 k x13 x15 (!x15)) else (F59.j3 k x13 x15 false))
def F59.j3 : Nat → Int → Bool → Bool → Option (Int × Int)
  | 0, _, _, _ => none
  | k + 1, x13, x15, x75 => if x75 = true then (some (0, 4)) else (if x13 = 9223372036854775808 then (some ((-9223372036854775808), 0)) else (if x15 = true then (some (wrap64 (-(wrap64 (x13))), 0)) else (some (wrap64 (x13), 0))))
end
def F59.f (k : Nat) (a0 : Int) (a1 : Int) (a2 : Int) (a3 : Int) : Option (Int × Int) := if a3 < 1 then (F59.j0 k a0 a1 a2 a3 true) else (F59.j0 k a0 a1 a2 a3 (decide (a3 > 5)))
set_option maxHeartbeats 8000000 in
set_option maxRecDepth 100000 in
theorem F59.calls (k : Nat) (a0 : Int) (a1 : Int) (a2 : Int) (a3 : Int) (r1 : Int) (r2 : Int) (w : World) (h : F59.f k a0 a1 a2 a3 = some (r1, r2)) :
    Calls Tryd.prog 59 #[.int .i64 a0, .int .i64 a1, .int .i64 a2, .int .i64 a3] w fun e w' => e = .returned (.tuple #[.int .i64 r1, .int .i64 r2]) ∧ Drawn0 w w' := by
 unfold F59.f at h
 have H := h; clear h; have HC5 := Aside0.mk H; clear H; go_enter Tryd.func59, Tryd.ntmps59
 go_upto_region 1 with (fail)
 go_cut [21] (fun v21 wc => ∃ (kq : Nat) (x21_4 : Bool), v21 = .bool x21_4 ∧ Aside0 (F59.j0 kq a0 a1 a2 a3 x21_4 = some (r1, r2)) ∧ Aside0 (kq ≤ k) ∧ Drawn0 w wc)
 case first =>
  have H := HC5.out; clear HC5
  by_cases c6 : a3 < 1
  ·rw [if_pos c6] at H; have c6b0 := decide_eq_true c6; clear c6; (first | rw [c6b0] | (simp only [i64_w, i32_w]; rw [c6b0]) | skip); have H' := Aside0.mk H; clear H
   go_wp2
   go_meet
   case rel => exact ⟨_, (true), pbb2_0, H', ⟨pla1_0⟩, pbb2_1⟩
  ·rw [if_neg c6] at H; have c6b0 := decide_eq_false c6; clear c6; (first | rw [c6b0] | (simp only [i64_w, i32_w]; rw [c6b0]) | skip); have H' := Aside0.mk H; clear H
   go_wp2
   go_meet
   case rel => exact ⟨_, (decide (a3 > 5)), pbb2_0, H', ⟨pla1_0⟩, pbb2_1⟩
 case rest =>
  clear HC5; obtain ⟨kq, x21_4, rfl, HA, HJ4, ⟨mc4, rfl⟩⟩ := hcut
  cases kq with
  | zero => exact absurd HA.out (by simp [F59.j0])
  | succ kj4 =>
   have H := HA.out; clear HA; simp only [F59.j0] at H
   by_cases c7 : x21_4 = true
   ·subst c7; rw [if_pos rfl] at H; simp only [Option.some.injEq, Prod.mk.injEq] at H; obtain ⟨rfl, rfl⟩ := H
    go_wp2
    go_ret2
    exact ⟨pbb2_0, pbb2_1⟩
   ·replace c7 := Bool.eq_false_iff.mpr c7; subst c7; rw [if_neg (show ¬ (false = true) by decide)] at H
    by_cases c8 : a2 = 0
    ·rw [if_pos c8] at H; have c8b0 := bT_ c8; have c8b1 := bF_ c8; clear c8; simp only [Option.some.injEq, Prod.mk.injEq] at H; obtain ⟨rfl, rfl⟩ := H
     go_wp2
     go_ret2
     exact ⟨pbb2_0, pbb2_1⟩
    ·rw [if_neg c8] at H; have c8b0 := nF_ c8; have c8b1 := nT_ c8; obtain ⟨t101, A90, H⟩ := bnd H; have A9 := Aside0.mk A90; clear A90; obtain ⟨t102, A100, H⟩ := bnd H; have A10 := Aside0.mk A100; clear A100; obtain ⟨⟨t103, t104⟩, A110, H⟩ := bnd H; (try dsimp only at H); have A11 := Aside0.mk A110; clear A110; obtain ⟨t105, A120, H⟩ := bnd H; have A12 := Aside0.mk A120; clear A120; obtain ⟨⟨t106, t107, t108⟩, A130, H⟩ := bnd H; (try dsimp only at H); have A13 := Aside0.mk A130; clear A130; have HC14 := Aside0.mk H; clear H
     go_upto_region 8 with (first | ((with_reducible refine gate_callee (f := 70) rfl ?_); refine goesL_ (some 26) rfl rfl Tryd.func70 (by kernel_rfl) rfl #[.int .i64 a0] rfl pbb2_2 ?_; (with_reducible refine (F70.calls a0 t101 _ A9.out).mono ?_); rintro e w' ⟨rfl, ⟨nd, rfl⟩⟩; refine ⟨_, rfl, ?_⟩) | ((with_reducible refine gate_callee (f := 70) rfl ?_); refine goesL_ (some 28) rfl rfl Tryd.func70 (by kernel_rfl) rfl #[.int .i64 a1] rfl pbb2_2 ?_; (with_reducible refine (F70.calls a1 t102 _ A10.out).mono ?_); rintro e w' ⟨rfl, ⟨nd, rfl⟩⟩; refine ⟨_, rfl, ?_⟩) | ((with_reducible refine gate_callee (f := 69) rfl ?_); refine goesL_ (some 29) rfl rfl Tryd.func69 (by kernel_rfl) rfl #[.int .u64 t101, .int .u64 t102] rfl pbb2_2 ?_; (with_reducible refine (F69.calls t101 t102 t103 t104 _ A11.out).mono ?_); rintro e w' ⟨rfl, ⟨nd, rfl⟩⟩; refine ⟨_, rfl, ?_⟩) | ((with_reducible refine gate_callee (f := 70) rfl ?_); refine goesL_ (some 36) rfl rfl Tryd.func70 (by kernel_rfl) rfl #[.int .i64 a2] rfl pbb2_2 ?_; (with_reducible refine (F70.calls a2 t105 _ A12.out).mono ?_); rintro e w' ⟨rfl, ⟨nd, rfl⟩⟩; refine ⟨_, rfl, ?_⟩) | ((with_reducible refine gate_callee (f := 71) rfl ?_); refine goesL_ (some 37) rfl rfl Tryd.func71 (by kernel_rfl) rfl #[.int .u64 t103, .int .u64 t104, .int .u64 t105] rfl pbb2_2 ?_; (with_reducible refine (F71.calls kj4 t103 t104 t105 t106 t107 t108 _ A13.out).mono ?_); rintro e w' ⟨rfl, ⟨nd, rfl⟩⟩; refine ⟨_, rfl, ?_⟩))
     (try simp only [Act.put, List.setIfInBounds_toArray, List.set_cons_zero, List.set_cons_succ])
     go_cut [54] (fun v54 wc => ∃ (kq : Nat) (x54_13 : Bool), v54 = .bool x54_13 ∧ Aside0 (F59.j1 kq a2 a3 t107 t108 (((decide (a0 < 0)) != (decide (a1 < 0))) != (decide (a2 < 0))) x54_13 = some (r1, r2)) ∧ Aside0 (kq ≤ kj4) ∧ Drawn0 w wc)
     case first =>
      have H := HC14.out; clear HC14
      by_cases c15 : t106 > 0
      ·rw [if_pos c15] at H; have c15b0 : decide (0 < t106) = true := decide_eq_true c15; clear c15; (first | rw [c15b0] | (simp only [i64_w, i32_w]; rw [c15b0]) | skip); have H' := Aside0.mk H; clear H
       go_wp2
       go_meet
       case rel => exact ⟨_, (true), pbb2_0, H', ⟨by have := HJ4.out; first | omega | exact Nat.le_refl _⟩, pbb2_1⟩
      ·rw [if_neg c15] at H; have c15b0 : decide (0 < t106) = false := decide_eq_false c15; clear c15; (first | rw [c15b0] | (simp only [i64_w, i32_w]; rw [c15b0]) | skip); have H' := Aside0.mk H; clear H
       go_wp2
       go_meet
       case rel => exact ⟨_, (decide (t107 > 9223372036854775808)), pbb2_0, H', ⟨by have := HJ4.out; first | omega | exact Nat.le_refl _⟩, pbb2_1⟩
     case rest =>
      clear HC14; obtain ⟨kq, x54_13, rfl, HA, HJ13, ⟨mc13, rfl⟩⟩ := hcut
      cases kq with
      | zero => exact absurd HA.out (by simp [F59.j1])
      | succ kj13 =>
       have H := HA.out; clear HA; simp only [F59.j1] at H
       by_cases c16 : x54_13 = true
       ·subst c16; rw [if_pos rfl] at H; simp only [Option.some.injEq, Prod.mk.injEq] at H; obtain ⟨rfl, rfl⟩ := H
        go_wp2
        go_ret2
        exact ⟨pbb2_0, pbb2_1⟩
       ·replace c16 := Bool.eq_false_iff.mpr c16; subst c16; rw [if_neg (show ¬ (false = true) by decide)] at H; obtain ⟨t109, A170, H⟩ := bnd H; have A17 := Aside0.mk A170; clear A170; obtain ⟨t110, A180, H⟩ := bnd H; have A18 := Aside0.mk A180; clear A180; have HC19 := Aside0.mk H; clear H
        go_upto_if 63 with (first | ((with_reducible refine gate_callee (f := 70) rfl ?_); refine goesL_ (some 62) rfl rfl Tryd.func70 (by kernel_rfl) rfl #[.int .i64 a2] rfl pbb2_2 ?_; (with_reducible refine (F70.calls a2 t109 _ A17.out).mono ?_); rintro e w' ⟨rfl, ⟨nd, rfl⟩⟩; refine ⟨_, rfl, ?_⟩) | ((with_reducible refine gate_callee (f := 72) rfl ?_); refine goesL_ (some 63) rfl rfl Tryd.func72 (by kernel_rfl) rfl #[.int .i64 a3, .bool (((decide (a0 < 0)) != (decide (a1 < 0))) != (decide (a2 < 0))), .bool ((Int.tmod t107 2) == 1), .int .u64 t108, .int .u64 t109] rfl pbb2_2 ?_; (with_reducible refine (F72.calls a3 (((decide (a0 < 0)) != (decide (a1 < 0))) != (decide (a2 < 0))) ((Int.tmod t107 2) == 1) t108 t109 t110 _ A18.out).mono ?_); rintro e w' ⟨rfl, ⟨nd, rfl⟩⟩; refine ⟨_, rfl, ?_⟩))
        (try simp only [Act.put, List.setIfInBounds_toArray, List.set_cons_zero, List.set_cons_succ])
        go_cut [13] (fun v13 wc => ∃ (kq : Nat) (x13_18 : Int), v13 = .int .u64 x13_18 ∧ Aside0 (F59.j2 kq x13_18 (((decide (a0 < 0)) != (decide (a1 < 0))) != (decide (a2 < 0))) = some (r1, r2)) ∧ Aside0 (kq ≤ kj13) ∧ Drawn0 w wc)
        case first =>
         have H := HC19.out; clear HC19
         by_cases c20 : t110 = true
         ·subst c20; rw [if_pos rfl] at H; have H' := Aside0.mk H; clear H
          go_wp2
          go_meet
          case rel => exact ⟨_, (IntKind.u64.wrap (t107 + 1)), pbb2_0, H', ⟨by have := HJ4.out; have := HJ13.out; first | omega | exact Nat.le_refl _⟩, pbb2_1⟩
         ·replace c20 := Bool.eq_false_iff.mpr c20; subst c20; rw [if_neg (show ¬ (false = true) by decide)] at H; have H' := Aside0.mk H; clear H
          go_wp2
          go_meet
          case rel => exact ⟨_, (t107), pbb2_0, H', ⟨by have := HJ4.out; have := HJ13.out; first | omega | exact Nat.le_refl _⟩, pbb2_1⟩
        case rest =>
         clear HC19; obtain ⟨kq, x13_18, rfl, HA, HJ18, ⟨mc18, rfl⟩⟩ := hcut
         cases kq with
         | zero => exact absurd HA.out (by simp [F59.j2])
         | succ kj18 =>
          have H := HA.out; clear HA; simp only [F59.j2] at H; have HC21 := Aside0.mk H; clear H
          go_upto_region 12 with (fail)
          go_cut [75] (fun v75 wc => ∃ (kq : Nat) (x75_20 : Bool), v75 = .bool x75_20 ∧ Aside0 (F59.j3 kq x13_18 (((decide (a0 < 0)) != (decide (a1 < 0))) != (decide (a2 < 0))) x75_20 = some (r1, r2)) ∧ Aside0 (kq ≤ kj18) ∧ Drawn0 w wc)
          case first =>
           have H := HC21.out; clear HC21
           by_cases c22 : x13_18 > 9223372036854775808
           ·rw [if_pos c22] at H; have c22b0 : decide (9223372036854775808 < x13_18) = true := decide_eq_true c22; clear c22; (first | rw [c22b0] | (simp only [i64_w, i32_w]; rw [c22b0]) | skip); have H' := Aside0.mk H; clear H
            go_wp2
            go_meet
            case rel => exact ⟨_, (true), pbb2_0, H', ⟨pla2_0⟩, pbb2_1⟩
           ·rw [if_neg c22] at H; have c22b0 : decide (9223372036854775808 < x13_18) = false := decide_eq_false c22; clear c22; (first | rw [c22b0] | (simp only [i64_w, i32_w]; rw [c22b0]) | skip)
            by_cases c23 : x13_18 = 9223372036854775808
            ·rw [if_pos c23] at H; have c23b0 := bT_ c23; have c23b1 := bF_ c23; clear c23; have H' := Aside0.mk H; clear H
             go_wp2
             go_meet
             case rel => exact ⟨_, (!(((decide (a0 < 0)) != (decide (a1 < 0))) != (decide (a2 < 0)))), (by first | rfl | (simp; done) | (simp [*]; done) | (congr 1; generalize decide (a0 < 0) = q0_; generalize decide (a1 < 0) = q1_; generalize decide (a2 < 0) = q2_; revert q0_ q1_ q2_; decide)), H', ⟨pla2_0⟩, pbb2_1⟩
            ·rw [if_neg c23] at H; have c23b0 := nF_ c23; have c23b1 := nT_ c23; have H' := Aside0.mk H; clear H
             go_wp2
             go_meet
             case rel => exact ⟨_, (false), pbb2_0, H', ⟨pla2_0⟩, pbb2_1⟩
          case rest =>
           clear HC21; obtain ⟨kq, x75_20, rfl, HA, HJ20, ⟨mc20, rfl⟩⟩ := hcut
           cases kq with
           | zero => exact absurd HA.out (by simp [F59.j3])
           | succ kj20 =>
            have H := HA.out; clear HA; simp only [F59.j3] at H
            by_cases c24 : x75_20 = true
            ·subst c24; rw [if_pos rfl] at H; simp only [Option.some.injEq, Prod.mk.injEq] at H; obtain ⟨rfl, rfl⟩ := H
             go_wp2
             go_ret2
             exact ⟨pbb2_0, pbb2_1⟩
            ·replace c24 := Bool.eq_false_iff.mpr c24; subst c24; rw [if_neg (show ¬ (false = true) by decide)] at H
             by_cases c25 : x13_18 = 9223372036854775808
             ·rw [if_pos c25] at H; have c25b0 := bT_ c25; have c25b1 := bF_ c25; clear c25; simp only [Option.some.injEq, Prod.mk.injEq] at H; obtain ⟨rfl, rfl⟩ := H
              go_wp2
              go_ret2
              exact ⟨pbb2_0, pbb2_1⟩
             ·rw [if_neg c25] at H; have c25b0 := nF_ c25; have c25b1 := nT_ c25
              by_cases c26 : (((decide (a0 < 0)) != (decide (a1 < 0))) != (decide (a2 < 0))) = true
              ·rw [if_pos c26] at H; have c26b0 : (((decide (a0 < 0)) != (decide (a1 < 0))) != (decide (a2 < 0))) = true := c26; have c26n0 : (!(!decide (a0 < 0) == decide (a1 < 0)) == decide (a2 < 0)) = true := by (have z_ := c26b0; revert z_; generalize decide (a0 < 0) = q0_; generalize decide (a1 < 0) = q1_; generalize decide (a2 < 0) = q2_; revert q0_ q1_ q2_; decide)
               (try (have c26b1 : decide (((decide (a0 < 0)) != (decide (a1 < 0))) = (decide (a2 < 0))) = false := by simpa using c26)); (try (have c26b2 : (((decide (a0 < 0)) != (decide (a1 < 0))) == (decide (a2 < 0))) = false := by simpa using c26)); (try (have c26b3 : ¬ (((decide (a0 < 0)) != (decide (a1 < 0))) = (decide (a2 < 0))) := by simpa using c26)); clear c26; simp only [Option.some.injEq, Prod.mk.injEq] at H; obtain ⟨rfl, rfl⟩ := H
               go_wp2
               all_goals (try exact Bool.noConfusion (c26n0.symm.trans (by assumption : (!(!decide (a0 < 0) == decide (a1 < 0)) == decide (a2 < 0)) = false)))
               go_ret2
               exact ⟨pbb2_0, pbb2_1⟩
              ·rw [if_neg c26] at H; have c26b0 : (((decide (a0 < 0)) != (decide (a1 < 0))) != (decide (a2 < 0))) = false := by simpa using c26
               have c26n0 : (!(!decide (a0 < 0) == decide (a1 < 0)) == decide (a2 < 0)) = false := by (have z_ := c26b0; revert z_; generalize decide (a0 < 0) = q0_; generalize decide (a1 < 0) = q1_; generalize decide (a2 < 0) = q2_; revert q0_ q1_ q2_; decide)
               (try (have c26b1 : decide (((decide (a0 < 0)) != (decide (a1 < 0))) = (decide (a2 < 0))) = true := by simpa using c26)); (try (have c26b2 : (((decide (a0 < 0)) != (decide (a1 < 0))) == (decide (a2 < 0))) = true := by simpa using c26)); clear c26; simp only [Option.some.injEq, Prod.mk.injEq] at H; obtain ⟨rfl, rfl⟩ := H
               go_wp2
               all_goals (try exact Bool.noConfusion (c26n0.symm.trans (by assumption : (!(!decide (a0 < 0) == decide (a1 < 0)) == decide (a2 < 0)) = true)))
               go_ret2
               exact ⟨pbb2_0, pbb2_1⟩
def F60.f (k : Nat) (a0 : Int) (a1 : Int) (a2 : Int) : Option (Int × Int) := if a2 = 0 then (some (0, 2)) else ((F70.f a0).bind fun t101 => ((F70.f a1).bind fun t102 => ((F69.f t101 t102).bind fun bt103 => ((F70.f a2).bind fun t105 => ((F71.f k bt103.1 bt103.2 t105).bind fun bt106 => (if bt106.2.2 > 0 then (if ((decide (a0 < 0)) != (decide (a1 < 0))) = true then ((F70.f a2).bind fun t109 => (some (wrap64 (IntKind.u64.wrap (t109 - bt106.2.2)), 0))) else (some (wrap64 (bt106.2.2), 0))) else (some (wrap64 (bt106.2.2), 0))))))))
set_option maxHeartbeats 8000000 in
set_option maxRecDepth 100000 in
theorem F60.calls (k : Nat) (a0 : Int) (a1 : Int) (a2 : Int) (r1 : Int) (r2 : Int) (w : World) (h : F60.f k a0 a1 a2 = some (r1, r2)) :
    Calls Tryd.prog 60 #[.int .i64 a0, .int .i64 a1, .int .i64 a2] w fun e w' => e = .returned (.tuple #[.int .i64 r1, .int .i64 r2]) ∧ Drawn0 w w' := by
 unfold F60.f at h
 have H := h; clear h
 by_cases c4 : a2 = 0
 ·rw [if_pos c4] at H; have c4b0 := bT_ c4; have c4b1 := bF_ c4; clear c4; simp only [Option.some.injEq, Prod.mk.injEq] at H; obtain ⟨rfl, rfl⟩ := H; go_enter Tryd.func60, Tryd.ntmps60
  go_wp2
  go_ret2
  exact ⟨pbb2_0, pbb2_1⟩
 ·rw [if_neg c4] at H; have c4b0 := nF_ c4; have c4b1 := nT_ c4; obtain ⟨t101, A50, H⟩ := bnd H; have A5 := Aside0.mk A50; clear A50; obtain ⟨t102, A60, H⟩ := bnd H; have A6 := Aside0.mk A60; clear A60; obtain ⟨⟨t103, t104⟩, A70, H⟩ := bnd H; (try dsimp only at H); have A7 := Aside0.mk A70; clear A70; obtain ⟨t105, A80, H⟩ := bnd H; have A8 := Aside0.mk A80; clear A80; obtain ⟨⟨t106, t107, t108⟩, A90, H⟩ := bnd H; (try dsimp only at H); have A9 := Aside0.mk A90; clear A90
  by_cases c10 : t108 > 0
  ·rw [if_pos c10] at H; have c10b0 : decide (0 < t108) = true := decide_eq_true c10; clear c10
   by_cases c11 : ((decide (a0 < 0)) != (decide (a1 < 0))) = true
   ·rw [if_pos c11] at H; have c11b0 : ((decide (a0 < 0)) != (decide (a1 < 0))) = true := c11; (try (have c11b1 : decide ((decide (a0 < 0)) = (decide (a1 < 0))) = false := by simpa using c11)); (try (have c11b2 : ((decide (a0 < 0)) == (decide (a1 < 0))) = false := by simpa using c11)); (try (have c11b3 : ¬ ((decide (a0 < 0)) = (decide (a1 < 0))) := by simpa using c11)); clear c11; obtain ⟨t109, A120, H⟩ := bnd H; have A12 := Aside0.mk A120; clear A120; simp only [Option.some.injEq, Prod.mk.injEq] at H; obtain ⟨rfl, rfl⟩ := H; go_enter Tryd.func60, Tryd.ntmps60
    go_wp2_with (first | ((with_reducible refine gate_callee (f := 70) rfl ?_); refine goesL_ (some 17) rfl rfl Tryd.func70 (by kernel_rfl) rfl #[.int .i64 a0] rfl pbb2_2 ?_; (with_reducible refine (F70.calls a0 t101 _ A5.out).mono ?_); rintro e w' ⟨rfl, ⟨nd, rfl⟩⟩; refine ⟨_, rfl, ?_⟩) | ((with_reducible refine gate_callee (f := 70) rfl ?_); refine goesL_ (some 19) rfl rfl Tryd.func70 (by kernel_rfl) rfl #[.int .i64 a1] rfl pbb2_2 ?_; (with_reducible refine (F70.calls a1 t102 _ A6.out).mono ?_); rintro e w' ⟨rfl, ⟨nd, rfl⟩⟩; refine ⟨_, rfl, ?_⟩) | ((with_reducible refine gate_callee (f := 69) rfl ?_); refine goesL_ (some 20) rfl rfl Tryd.func69 (by kernel_rfl) rfl #[.int .u64 t101, .int .u64 t102] rfl pbb2_2 ?_; (with_reducible refine (F69.calls t101 t102 t103 t104 _ A7.out).mono ?_); rintro e w' ⟨rfl, ⟨nd, rfl⟩⟩; refine ⟨_, rfl, ?_⟩) | ((with_reducible refine gate_callee (f := 70) rfl ?_); refine goesL_ (some 27) rfl rfl Tryd.func70 (by kernel_rfl) rfl #[.int .i64 a2] rfl pbb2_2 ?_; (with_reducible refine (F70.calls a2 t105 _ A8.out).mono ?_); rintro e w' ⟨rfl, ⟨nd, rfl⟩⟩; refine ⟨_, rfl, ?_⟩) | ((with_reducible refine gate_callee (f := 71) rfl ?_); refine goesL_ (some 28) rfl rfl Tryd.func71 (by kernel_rfl) rfl #[.int .u64 t103, .int .u64 t104, .int .u64 t105] rfl pbb2_2 ?_; (with_reducible refine (F71.calls k t103 t104 t105 t106 t107 t108 _ A9.out).mono ?_); rintro e w' ⟨rfl, ⟨nd, rfl⟩⟩; refine ⟨_, rfl, ?_⟩) | ((with_reducible refine gate_callee (f := 70) rfl ?_); refine goesL_ (some 42) rfl rfl Tryd.func70 (by kernel_rfl) rfl #[.int .i64 a2] rfl pbb2_2 ?_; (with_reducible refine (F70.calls a2 t109 _ A12.out).mono ?_); rintro e w' ⟨rfl, ⟨nd, rfl⟩⟩; refine ⟨_, rfl, ?_⟩))
    go_ret2
    exact ⟨pbb2_0, pbb2_1⟩
   ·rw [if_neg c11] at H; have c11b0 : ((decide (a0 < 0)) != (decide (a1 < 0))) = false := by simpa using c11
    (try (have c11b1 : decide ((decide (a0 < 0)) = (decide (a1 < 0))) = true := by simpa using c11)); (try (have c11b2 : ((decide (a0 < 0)) == (decide (a1 < 0))) = true := by simpa using c11)); clear c11; simp only [Option.some.injEq, Prod.mk.injEq] at H; obtain ⟨rfl, rfl⟩ := H; go_enter Tryd.func60, Tryd.ntmps60
    go_wp2_with (first | ((with_reducible refine gate_callee (f := 70) rfl ?_); refine goesL_ (some 17) rfl rfl Tryd.func70 (by kernel_rfl) rfl #[.int .i64 a0] rfl pbb2_2 ?_; (with_reducible refine (F70.calls a0 t101 _ A5.out).mono ?_); rintro e w' ⟨rfl, ⟨nd, rfl⟩⟩; refine ⟨_, rfl, ?_⟩) | ((with_reducible refine gate_callee (f := 70) rfl ?_); refine goesL_ (some 19) rfl rfl Tryd.func70 (by kernel_rfl) rfl #[.int .i64 a1] rfl pbb2_2 ?_; (with_reducible refine (F70.calls a1 t102 _ A6.out).mono ?_); rintro e w' ⟨rfl, ⟨nd, rfl⟩⟩; refine ⟨_, rfl, ?_⟩) | ((with_reducible refine gate_callee (f := 69) rfl ?_); refine goesL_ (some 20) rfl rfl Tryd.func69 (by kernel_rfl) rfl #[.int .u64 t101, .int .u64 t102] rfl pbb2_2 ?_; (with_reducible refine (F69.calls t101 t102 t103 t104 _ A7.out).mono ?_); rintro e w' ⟨rfl, ⟨nd, rfl⟩⟩; refine ⟨_, rfl, ?_⟩) | ((with_reducible refine gate_callee (f := 70) rfl ?_); refine goesL_ (some 27) rfl rfl Tryd.func70 (by kernel_rfl) rfl #[.int .i64 a2] rfl pbb2_2 ?_; (with_reducible refine (F70.calls a2 t105 _ A8.out).mono ?_); rintro e w' ⟨rfl, ⟨nd, rfl⟩⟩; refine ⟨_, rfl, ?_⟩) | ((with_reducible refine gate_callee (f := 71) rfl ?_); refine goesL_ (some 28) rfl rfl Tryd.func71 (by kernel_rfl) rfl #[.int .u64 t103, .int .u64 t104, .int .u64 t105] rfl pbb2_2 ?_; (with_reducible refine (F71.calls k t103 t104 t105 t106 t107 t108 _ A9.out).mono ?_); rintro e w' ⟨rfl, ⟨nd, rfl⟩⟩; refine ⟨_, rfl, ?_⟩))
    go_ret2
    exact ⟨pbb2_0, pbb2_1⟩
  ·rw [if_neg c10] at H; have c10b0 : decide (0 < t108) = false := decide_eq_false c10; clear c10; simp only [Option.some.injEq, Prod.mk.injEq] at H; obtain ⟨rfl, rfl⟩ := H; go_enter Tryd.func60, Tryd.ntmps60
   go_wp2_with (first | ((with_reducible refine gate_callee (f := 70) rfl ?_); refine goesL_ (some 17) rfl rfl Tryd.func70 (by kernel_rfl) rfl #[.int .i64 a0] rfl pbb2_2 ?_; (with_reducible refine (F70.calls a0 t101 _ A5.out).mono ?_); rintro e w' ⟨rfl, ⟨nd, rfl⟩⟩; refine ⟨_, rfl, ?_⟩) | ((with_reducible refine gate_callee (f := 70) rfl ?_); refine goesL_ (some 19) rfl rfl Tryd.func70 (by kernel_rfl) rfl #[.int .i64 a1] rfl pbb2_2 ?_; (with_reducible refine (F70.calls a1 t102 _ A6.out).mono ?_); rintro e w' ⟨rfl, ⟨nd, rfl⟩⟩; refine ⟨_, rfl, ?_⟩) | ((with_reducible refine gate_callee (f := 69) rfl ?_); refine goesL_ (some 20) rfl rfl Tryd.func69 (by kernel_rfl) rfl #[.int .u64 t101, .int .u64 t102] rfl pbb2_2 ?_; (with_reducible refine (F69.calls t101 t102 t103 t104 _ A7.out).mono ?_); rintro e w' ⟨rfl, ⟨nd, rfl⟩⟩; refine ⟨_, rfl, ?_⟩) | ((with_reducible refine gate_callee (f := 70) rfl ?_); refine goesL_ (some 27) rfl rfl Tryd.func70 (by kernel_rfl) rfl #[.int .i64 a2] rfl pbb2_2 ?_; (with_reducible refine (F70.calls a2 t105 _ A8.out).mono ?_); rintro e w' ⟨rfl, ⟨nd, rfl⟩⟩; refine ⟨_, rfl, ?_⟩) | ((with_reducible refine gate_callee (f := 71) rfl ?_); refine goesL_ (some 28) rfl rfl Tryd.func71 (by kernel_rfl) rfl #[.int .u64 t103, .int .u64 t104, .int .u64 t105] rfl pbb2_2 ?_; (with_reducible refine (F71.calls k t103 t104 t105 t106 t107 t108 _ A9.out).mono ?_); rintro e w' ⟨rfl, ⟨nd, rfl⟩⟩; refine ⟨_, rfl, ?_⟩))
   go_ret2
   exact ⟨pbb2_0, pbb2_1⟩
mutual
def F46.j0 : Nat → Int → List Int → Int → Int → Option (List Int × Int)
  | 0, _, _, _, _ => none
  | k + 1, x0, x1, x6, x8 => if 0 ≤ (x1.length : Int) then (if ((x1.length : Int) : Int).toNat ≤ 35184372088832 then (F46.l0 k x0 x1 x6 x8 (List.replicate ((x1.length : Int) : Int).toNat 0) (List.replicate ((x1.length : Int) : Int).toNat 0) x8 0) else (none)) else (none)
def F46.l0 : Nat → Int → List Int → Int → Int → List Int → List Int → Int → Int → Option (List Int × Int)
  | 0, _, _, _, _, _, _, _, _ => none
  | k + 1, x0, x1, x6, x8, x9, x10, x11, x12 => if x12 < (x1.length : Int) then (if 0 ≤ x12 then ((F59.f k x8 (rd x1 x12) x6 1).bind fun bt110 => ((F60.f k x8 (rd x1 x12) x6).bind fun bt113 => (if x12 < (x9.length : Int) then ((some (x9.set (x12 : Int).toNat bt110.1 : List Int)).bind fun y115 => (if x12 < (x10.length : Int) then (F46.l0 k x0 x1 x6 x8 y115 (x10.set (x12 : Int).toNat bt113.1) (wrap64 (x11 - (rd y115 x12))) (wrap64 (x12 + 1))) else (none))) else (none)))) else (none)) else (F46.l1 k x0 x9 x10 x11)
def F46.l1 : Nat → Int → List Int → List Int → Int → Option (List Int × Int)
  | 0, _, _, _, _ => none
  | k + 1, x0, x9, x10, x11 => if x11 > 0 then (F46.l2 k x0 x9 x10 x11 0 0) else (F46.l3 k x0 x9 0)
def F46.l2 : Nat → Int → List Int → List Int → Int → Int → Int → Option (List Int × Int)
  | 0, _, _, _, _, _, _ => none
  | k + 1, x0, x9, x10, x11, x17, x18 => if x18 < (x10.length : Int) then (if 0 ≤ x18 then (if 0 ≤ x17 then (if x17 < (x10.length : Int) then (if (rd x10 x18) > (rd x10 x17) then (F46.l2 k x0 x9 x10 x11 x18 (wrap64 (x18 + 1))) else (F46.l2 k x0 x9 x10 x11 x17 (wrap64 (x18 + 1)))) else (none)) else (none)) else (none)) else (if 0 ≤ x17 then (if x17 < (x9.length : Int) then (if x17 < (x10.length : Int) then (F46.l1 k x0 (x9.set (x17 : Int).toNat (wrap64 ((rd x9 x17) + 1))) (x10.set (x17 : Int).toNat (-1)) (wrap64 (x11 - 1))) else (none)) else (none)) else (none))
def F46.l3 : Nat → Int → List Int → Int → Option (List Int × Int)
  | 0, _, _, _ => none
  | k + 1, x0, x9, x19 => if x19 < (x9.length : Int) then (if x0 < 0 then (if 0 ≤ x19 then (F46.l3 k x0 (x9.set (x19 : Int).toNat (wrap64 (-(rd x9 x19)))) (wrap64 (x19 + 1))) else (none)) else (some (x9, 0))) else (some (x9, 0))
end
def F46.f (k : Nat) (a0 : Int) (l1 : List Int) : Option (List Int × Int) := (F58.f k a0 l1).bind fun bt101 => (if bt101.2 = 0 then (if a0 < 0 then (F46.j0 k a0 l1 bt101.1 (wrap64 (-a0))) else (F46.j0 k a0 l1 bt101.1 a0)) else (some (([] : List Int), bt101.2)))
set_option maxHeartbeats 8000000 in
set_option maxRecDepth 100000 in
theorem F46.calls (k : Nat) (a0 : Int) (A1 : Option Addr) (c1 : Nat) (l1 : List Int) (r1 : List Int) (r2 : Int) (w : World) (hr1 : Kd.C (Kd.int .i64) w A1 l1.length l1) (hc1 : l1.length ≤ c1) (h : F46.f k a0 l1 = some (r1, r2)) :
    Calls Tryd.prog 46 #[.int .i64 a0, .slice A1 l1.length c1] w fun e w' => ∃ v0_ : Value, e = .returned (.tuple #[v0_, .int .i64 r2]) ∧ Kd.R (Kd.int .i64) 3 w' w.heap.size (fun _ => True) v0_ r1 ∧ Below w.heap.size w w' := by
 have hu3 := Tryd.underlying3; have HR1 := Aside0.mk hr1; have HC1 := Aside0.mk hc1; clear hr1 hc1; have HB := Aside0.mk (Below.refl w.heap.size w)
 unfold F46.f at h
 have H := h; clear h; obtain ⟨⟨t101, t102⟩, A30, H⟩ := bnd H; (try dsimp only at H); have A3 := Aside0.mk A30; clear A30
 by_cases c4 : t102 = 0
 ·rw [if_pos c4] at H; have c4b0 := bT_ c4; have c4b1 := bF_ c4; clear c4; have HC5 := Aside0.mk H; clear H; go_enter Tryd.func46, Tryd.ntmps46
  go_upto_if 31 with (first | (go_at_call 58; (with_reducible refine (F58.calls k a0 _ _ l1 t101 t102 _ pla2_1 HC1.out A3.out).mono ?_); rintro e w' ⟨rfl, ⟨nd, rfl⟩⟩; (try first | exact ⟨rfl, _, World.drewN_drewN _ _ _⟩ | exact ⟨rfl, _, Eq.trans (World.drewN_drewN _ _ _) (congrArg (World.drewN _) (Nat.add_assoc _ _ _))⟩)))
  repeat (go_quiet (first | (go_at_call 58; (with_reducible refine (F58.calls k a0 _ _ l1 t101 t102 _ pla2_1 HC1.out A3.out).mono ?_); rintro e w' ⟨rfl, ⟨nd, rfl⟩⟩; (try first | exact ⟨rfl, _, World.drewN_drewN _ _ _⟩ | exact ⟨rfl, _, Eq.trans (World.drewN_drewN _ _ _) (congrArg (World.drewN _) (Nat.add_assoc _ _ _))⟩))); go_upto_if 31 with (first | (go_at_call 58; (with_reducible refine (F58.calls k a0 _ _ l1 t101 t102 _ pla2_1 HC1.out A3.out).mono ?_); rintro e w' ⟨rfl, ⟨nd, rfl⟩⟩; (try first | exact ⟨rfl, _, World.drewN_drewN _ _ _⟩ | exact ⟨rfl, _, Eq.trans (World.drewN_drewN _ _ _) (congrArg (World.drewN _) (Nat.add_assoc _ _ _))⟩))))
  (try simp only [Act.put, List.setIfInBounds_toArray, List.set_cons_zero, List.set_cons_succ])
  go_cut [8] (fun v8 wc => ∃ (kq : Nat) (x8_4 : Int), v8 = .int .i64 x8_4 ∧ Aside0 (F46.j0 kq a0 l1 t101 x8_4 = some (r1, r2)) ∧ Aside0 (kq ≤ k) ∧ Aside0 (Below w.heap.size w wc))
  case first =>
   have H := HC5.out; clear HC5
   by_cases c6 : a0 < 0
   ·rw [if_pos c6] at H; have c6b0 := decide_eq_true c6; clear c6; (first | rw [c6b0] | (simp only [i64_w, i32_w]; rw [c6b0]) | skip); have H' := Aside0.mk H; clear H
    go_wp2
    repeat (go_quiet (fail); try go_wp2)
    go_meet
    case rel => exact ⟨_, (wrap64 (-a0)), pbb2_0, H', ⟨pla1_0⟩, ⟨pbb2_3⟩⟩
   ·rw [if_neg c6] at H; have c6b0 := decide_eq_false c6; clear c6; (first | rw [c6b0] | (simp only [i64_w, i32_w]; rw [c6b0]) | skip); have H' := Aside0.mk H; clear H
    go_wp2
    repeat (go_quiet (fail); try go_wp2)
    go_meet
    case rel => exact ⟨_, (a0), pbb2_0, H', ⟨pla1_0⟩, ⟨pbb2_3⟩⟩
  case rest =>
   clear HC5; obtain ⟨kq, x8_4, rfl, HA, HJ4, HB⟩ := hcut
   cases kq with
   | zero => exact absurd HA.out (by simp [F46.j0])
   | succ kj4 =>
    have H := HA.out; clear HA; simp only [F46.j0] at H
    by_cases c7 : 0 ≤ (l1.length : Int)
    ·rw [if_pos c7] at H; have c7b0 := eq_true c7; have c7b1 := decide_eq_true c7; clear c7
     by_cases c8 : ((l1.length : Int) : Int).toNat ≤ 35184372088832
     ·rw [if_pos c8] at H; have c8b0 := eq_true c8; have c8b1 := decide_eq_true c8; clear c8; obtain ⟨y103, hy103⟩ : ∃ y_ : List Int, y_ = (List.replicate ((l1.length : Int) : Int).toNat 0) := ⟨_, rfl⟩; replace H : (F46.l0 kj4 a0 l1 t101 x8_4 y103 (List.replicate ((l1.length : Int) : Int).toNat 0) x8_4 0) = some (r1, r2) := by first | (rw [hy103]; with_reducible exact H) | (have H2_ := (Option.bind_some _ _).symm.trans H; rw [hy103]; with_reducible exact H2_) | (have H2_ := (Option.bind_some _ _).symm.trans H; with_reducible exact H2_) | with_reducible exact H | (rw [hy103]; exact H) | exact H
      have Ny103 := Aside0.mk hy103; clear hy103; obtain ⟨y106, hy106⟩ : ∃ y_ : List Int, y_ = (List.replicate ((l1.length : Int) : Int).toNat 0) := ⟨_, rfl⟩; replace H : (F46.l0 kj4 a0 l1 t101 x8_4 y103 y106 x8_4 0) = some (r1, r2) := by first | (rw [hy106]; with_reducible exact H) | (have H2_ := (Option.bind_some _ _).symm.trans H; rw [hy106]; with_reducible exact H2_) | (have H2_ := (Option.bind_some _ _).symm.trans H; with_reducible exact H2_) | with_reducible exact H | (rw [hy106]; exact H) | exact H
      have Ny106 := Aside0.mk hy106; clear hy106; have H' := Aside0.mk H; clear H
      go_wp2_with (first | ((with_reducible refine gate_dst (N := 36) rfl ?_); refine Kd.R_make (Kd.int .i64) _ 3 rfl (N := 36) rfl 37 _ _ rfl (l1.length : Int) rfl rfl Tryd.underlying37 (.int .i64 0) 8 info3 rfl (by decide) (by omega) 0 (ok := fun _ => True) (okp := fun _ => True) rfl (fun _ hk => hk) trivial (of_decide_eq_true pbb2_4) (Nat.le_trans (Nat.mul_le_mul_right _ (of_decide_eq_true pbb2_4 : (l1.length : Int).toNat ≤ 35184372088832)) (by omega)) (Below.refl _ _) (Nat.le_refl _) ?_; intro v104 w9 ho10 hb hg_ hnew_; clear hg_ hnew_; (first | rw [← Ny103.out] at ho10 | (simp only [Int.reduceToNat] at ho10; rw [← Ny103.out] at ho10)); have HO105 := Aside0.mk (Kd.R_lower ho10 (below_size pbb2_3)); replace HB := Aside0.mk (below_step pbb2_3 hb); clear hb ho10) | ((with_reducible refine gate_dst (N := 39) rfl ?_); refine Kd.R_make (Kd.int .i64) _ 3 rfl (N := 39) rfl 37 _ _ rfl (l1.length : Int) rfl rfl Tryd.underlying37 (.int .i64 0) 8 info3 rfl (by decide) (by omega) 0 (ok := fun _ => True) (okp := fun _ => True) rfl (fun _ hk => hk) trivial (of_decide_eq_true pbb2_4) (Nat.le_trans (Nat.mul_le_mul_right _ (of_decide_eq_true pbb2_4 : (l1.length : Int).toNat ≤ 35184372088832)) (by omega)) (Below.refl _ _) (Nat.le_refl _) ?_; intro v107 w11 ho12 hb hg_ hnew_; clear hg_ hnew_; (first | rw [← Ny106.out] at ho12 | (simp only [Int.reduceToNat] at ho12; rw [← Ny106.out] at ho12)); have HO108 := Aside0.mk (Kd.R_lower (Kd.R_new' ho12 (Kd.R_lt pla2_2)) (below_size pbb2_3)); replace HO105 := Aside0.mk (Kd.R_elder' pla2_2 (Kd.R_base ho12) hb); replace HB := Aside0.mk (below_step pbb2_3 hb); clear hb ho12))
      repeat (go_quiet (first | ((with_reducible refine gate_dst (N := 36) rfl ?_); refine Kd.R_make (Kd.int .i64) _ 3 rfl (N := 36) rfl 37 _ _ rfl (l1.length : Int) rfl rfl Tryd.underlying37 (.int .i64 0) 8 info3 rfl (by decide) (by omega) 0 (ok := fun _ => True) (okp := fun _ => True) rfl (fun _ hk => hk) trivial (of_decide_eq_true pbb2_4) (Nat.le_trans (Nat.mul_le_mul_right _ (of_decide_eq_true pbb2_4 : (l1.length : Int).toNat ≤ 35184372088832)) (by omega)) (Below.refl _ _) (Nat.le_refl _) ?_; intro v104 w9 ho10 hb hg_ hnew_; clear hg_ hnew_; (first | rw [← Ny103.out] at ho10 | (simp only [Int.reduceToNat] at ho10; rw [← Ny103.out] at ho10)); have HO105 := Aside0.mk (Kd.R_lower ho10 (below_size pbb2_3)); replace HB := Aside0.mk (below_step pbb2_3 hb); clear hb ho10) | ((with_reducible refine gate_dst (N := 39) rfl ?_); refine Kd.R_make (Kd.int .i64) _ 3 rfl (N := 39) rfl 37 _ _ rfl (l1.length : Int) rfl rfl Tryd.underlying37 (.int .i64 0) 8 info3 rfl (by decide) (by omega) 0 (ok := fun _ => True) (okp := fun _ => True) rfl (fun _ hk => hk) trivial (of_decide_eq_true pbb2_4) (Nat.le_trans (Nat.mul_le_mul_right _ (of_decide_eq_true pbb2_4 : (l1.length : Int).toNat ≤ 35184372088832)) (by omega)) (Below.refl _ _) (Nat.le_refl _) ?_; intro v107 w11 ho12 hb hg_ hnew_; clear hg_ hnew_; (first | rw [← Ny106.out] at ho12 | (simp only [Int.reduceToNat] at ho12; rw [← Ny106.out] at ho12)); have HO108 := Aside0.mk (Kd.R_lower (Kd.R_new' ho12 (Kd.R_lt pla2_2)) (below_size pbb2_3)); replace HO105 := Aside0.mk (Kd.R_elder' pla2_2 (Kd.R_base ho12) hb); replace HB := Aside0.mk (below_step pbb2_3 hb); clear hb ho12)); try go_wp2_with (first | ((with_reducible refine gate_dst (N := 36) rfl ?_); refine Kd.R_make (Kd.int .i64) _ 3 rfl (N := 36) rfl 37 _ _ rfl (l1.length : Int) rfl rfl Tryd.underlying37 (.int .i64 0) 8 info3 rfl (by decide) (by omega) 0 (ok := fun _ => True) (okp := fun _ => True) rfl (fun _ hk => hk) trivial (of_decide_eq_true pbb2_4) (Nat.le_trans (Nat.mul_le_mul_right _ (of_decide_eq_true pbb2_4 : (l1.length : Int).toNat ≤ 35184372088832)) (by omega)) (Below.refl _ _) (Nat.le_refl _) ?_; intro v104 w9 ho10 hb hg_ hnew_; clear hg_ hnew_; (first | rw [← Ny103.out] at ho10 | (simp only [Int.reduceToNat] at ho10; rw [← Ny103.out] at ho10)); have HO105 := Aside0.mk (Kd.R_lower ho10 (below_size pbb2_3)); replace HB := Aside0.mk (below_step pbb2_3 hb); clear hb ho10) | ((with_reducible refine gate_dst (N := 39) rfl ?_); refine Kd.R_make (Kd.int .i64) _ 3 rfl (N := 39) rfl 37 _ _ rfl (l1.length : Int) rfl rfl Tryd.underlying37 (.int .i64 0) 8 info3 rfl (by decide) (by omega) 0 (ok := fun _ => True) (okp := fun _ => True) rfl (fun _ hk => hk) trivial (of_decide_eq_true pbb2_4) (Nat.le_trans (Nat.mul_le_mul_right _ (of_decide_eq_true pbb2_4 : (l1.length : Int).toNat ≤ 35184372088832)) (by omega)) (Below.refl _ _) (Nat.le_refl _) ?_; intro v107 w11 ho12 hb hg_ hnew_; clear hg_ hnew_; (first | rw [← Ny106.out] at ho12 | (simp only [Int.reduceToNat] at ho12; rw [← Ny106.out] at ho12)); have HO108 := Aside0.mk (Kd.R_lower (Kd.R_new' ho12 (Kd.R_lt pla2_2)) (below_size pbb2_3)); replace HO105 := Aside0.mk (Kd.R_elder' pla2_2 (Kd.R_base ho12) hb); replace HB := Aside0.mk (below_step pbb2_3 hb); clear hb ho12)))
      go_loopg [11, 12] kj4 (fun kq v11 v12 w' => ∃ (x9_2 : List Int) (x10_2 : List Int) (x11_2 : Int) (x12_2 : Int), v11 = .int .i64 x11_2 ∧ v12 = .int .i64 x12_2 ∧ Aside0 (F46.l0 kq a0 l1 t101 x8_4 x9_2 x10_2 x11_2 x12_2 = some (r1, r2)) ∧ Aside0 (kq ≤ kj4) ∧ Aside0 (Kd.R (Kd.int .i64) 3 w' w.heap.size (fun k_ => some k_ ≠ (v107 : Value).ownBlock) v104 x9_2) ∧ Aside0 (Kd.R (Kd.int .i64) 3 w' w.heap.size (fun k_ => some k_ ≠ (v104 : Value).ownBlock) v107 x10_2) ∧ Aside0 (Below w.heap.size w w'))
      case atStart => exact ⟨(y103), (y106), (x8_4), (0), pbb2_0, pbb2_0, H', ⟨Nat.le_refl _⟩, ⟨by (with_reducible repeat (first | apply Kd.R_alloc | apply Kd.R_drewN | apply Kd.R_drew)); exact Kd.R_mono HO105.out (fun _ hk => hk.2)⟩, ⟨by (with_reducible repeat (first | apply Kd.R_alloc | apply Kd.R_drewN | apply Kd.R_drew)); exact Kd.R_mono HO108.out (fun _ hk => hk.2)⟩, ⟨pbb2_3⟩⟩
      case round =>
       clear H'; obtain ⟨x9_2, x10_2, x11_2, x12_2, rfl, rfl, HA, HK2, HO_9, HO_10, HB⟩ := hrel
       cases gk with
       | zero => exact absurd HA.out (by simp [F46.l0])
       | succ k2 =>
        have H := HA.out; clear HA; simp only [F46.l0] at H
        by_cases c13 : x12_2 < (l1.length : Int)
        ·rw [if_pos c13] at H; have c13b0 := decide_eq_true c13; clear c13
         by_cases c14 : 0 ≤ x12_2
         ·rw [if_pos c14] at H; have c14b0 := decide_eq_true c14; clear c14; obtain ⟨⟨t110, t111⟩, A150, H⟩ := bnd H; (try dsimp only at H); have A15 := Aside0.mk A150; clear A150; obtain ⟨⟨t113, t114⟩, A160, H⟩ := bnd H; (try dsimp only at H); have A16 := Aside0.mk A160; clear A160
          by_cases c17 : x12_2 < (x9_2.length : Int)
          ·rw [if_pos c17] at H; have c17b0 := decide_eq_true c17; clear c17; obtain ⟨y115, hy115⟩ : ∃ y_ : List Int, y_ = (x9_2.set (x12_2 : Int).toNat t110) := ⟨_, rfl⟩; replace H : (if x12_2 < (x10_2.length : Int) then (F46.l0 k2 a0 l1 t101 x8_4 y115 (x10_2.set (x12_2 : Int).toNat t113) (wrap64 (x11_2 - (rd y115 x12_2))) (wrap64 (x12_2 + 1))) else (none)) = some (r1, r2) := by first | (rw [hy115]; with_reducible exact H) | (have H2_ := (Option.bind_some _ _).symm.trans H; rw [hy115]; with_reducible exact H2_) | (have H2_ := (Option.bind_some _ _).symm.trans H; with_reducible exact H2_) | with_reducible exact H | (rw [hy115]; exact H) | exact H
           have Ny115 := Aside0.mk hy115; clear hy115
           by_cases c19 : x12_2 < (x10_2.length : Int)
           ·rw [if_pos c19] at H; have c19b0 := decide_eq_true c19; clear c19; obtain ⟨y116, hy116⟩ : ∃ y_ : List Int, y_ = (x10_2.set (x12_2 : Int).toNat t113) := ⟨_, rfl⟩; replace H : (F46.l0 k2 a0 l1 t101 x8_4 y115 y116 (wrap64 (x11_2 - (rd y115 x12_2))) (wrap64 (x12_2 + 1))) = some (r1, r2) := by first | (rw [hy116]; with_reducible exact H) | (have H2_ := (Option.bind_some _ _).symm.trans H; rw [hy116]; with_reducible exact H2_) | (have H2_ := (Option.bind_some _ _).symm.trans H; with_reducible exact H2_) | with_reducible exact H | (rw [hy116]; exact H) | exact H
            have Ny116 := Aside0.mk hy116; clear hy116; have H' := Aside0.mk H; clear H; have p109 : 0 ≤ (x12_2 : Int) := of_decide_eq_true pbb2_4; have q109 : x12_2 < (l1.length : Int) := of_decide_eq_true pbb2_4; obtain ⟨ad109, e109, hx109_0⟩ := Kd.at_int HR1.out x12_2 p109 q109
            cases e109
            replace hx109_0 := (HB.out.cell (World.block_lt_of_cell? w _ hx109_0)).trans hx109_0; replace p109 := eq_true p109; replace q109 := eq_true q109
            go_wp2_with (first | (go_at_call 59; (with_reducible refine (F59.calls k2 x8_4 (rd l1 x12_2) t101 1 t110 t111 _ A15.out).mono ?_); rintro e w' ⟨rfl, ⟨nd, rfl⟩⟩; (try first | exact ⟨rfl, _, World.drewN_drewN _ _ _⟩ | exact ⟨rfl, _, Eq.trans (World.drewN_drewN _ _ _) (congrArg (World.drewN _) (Nat.add_assoc _ _ _))⟩); have p112 : 0 ≤ (x12_2 : Int) := of_decide_eq_true pbb2_4; have q112 : x12_2 < (l1.length : Int) := of_decide_eq_true pbb2_4; obtain ⟨ad112, e112, hx112_0⟩ := Kd.at_int HR1.out x12_2 p112 q112; obtain rfl : ad109 = ad112 := (by injection e112); replace hx112_0 := (HB.out.cell (World.block_lt_of_cell? w _ hx112_0)).trans hx112_0; replace p112 := eq_true p112; replace q112 := eq_true q112) | (go_at_call 60; (with_reducible refine (F60.calls k2 x8_4 (rd l1 x12_2) t101 t113 t114 _ A16.out).mono ?_); rintro e w' ⟨rfl, ⟨nd, rfl⟩⟩; (try first | exact ⟨rfl, _, World.drewN_drewN _ _ _⟩ | exact ⟨rfl, _, Eq.trans (World.drewN_drewN _ _ _) (congrArg (World.drewN _) (Nat.add_assoc _ _ _))⟩); have p18 : 0 ≤ (x12_2 : Int) := of_decide_eq_true pbb2_4; have q18 : (x12_2 : Int) < ((x9_2.length : Int) : Int) := of_decide_eq_true pbb2_4; obtain ⟨go18, co18, eo18, gb18, gl18, cl18, HG18⟩ := Kd.R_form HO_9.out (by omega); (first | cases eo18 | (injection eo18 with ea_ en_ ec_; (first | subst ea_ | (injection ea_ with ea_; subst ea_)); subst ec_; clear en_)); have GB18 := Aside0.mk gb18; have GG18 := Aside0.mk HG18; clear gb18 gl18 HG18; obtain ⟨hx18_0, hf18_0⟩ := Kd.R_celln 0 HO_9.out (x12_2 : Int) p18 q18; replace p18 := eq_true p18; replace q18 := eq_true q18; obtain ⟨hy21_, hz21_⟩ := Kd.R_celln 0 HO_9.out (x12_2 : Int) (of_decide_eq_true pbb2_4) (of_decide_eq_true pbb2_4); have HP21 := Kd.R_putg HO_9.out (x12_2 : Int) t110) | ((with_reducible refine gate_store (t := 3) (p := 70) rfl ?_); (try (rw [drewN_self wr]; generalize hq_ : World.drewN wr _ = wr; have n0_ := Aside0.mk (Kd.R_at hq_ HO_9.out); have n1_ := Aside0.mk (Kd.R_at hq_ HO_10.out); have n2_ := Aside0.mk (below_at hq_ HB.out); clear hq_ HO_9 HO_10 HB; have HO_9 := n0_; have HO_10 := n1_; have HB := n2_; clear n0_ n1_ n2_; (try (obtain ⟨hy21_, hz21_⟩ := Kd.R_celln 0 HO_9.out (x12_2 : Int) (of_decide_eq_true pbb2_4) (of_decide_eq_true pbb2_4))); (try (have HP21 := Kd.R_putg HO_9.out (x12_2 : Int) t110)))); refine store_event (t := 3) (p := 70) (v := ?vo_w22) (w1 := (wr.setCell ⟨go18, (x12_2 : Int).toNat, none⟩ (.int .i64 t110))) ?hg ?ho ?hn ?hr ?_; (case ho => rfl); (case hg => rfl); (case hn => rfl); (case hr => first | (go_simp; done) | (go_simp; rfl)); intro w22 hw; have hg : wr.grownBy w22 (some go18) := (by rw [hw]; exact HP21.2); have hp_ : Kd.R (Kd.int .i64) 3 w22 w.heap.size (fun k_ => some k_ ≠ (v107 : Value).ownBlock) (.slice (some ⟨go18, 0, none⟩) x9_2.length co18) y115 := (by rw [hw, Ny115.out]; exact HP21.1); clear HP21; replace HO_9 := Aside0.mk (hp_); replace HO_10 := Aside0.mk (Kd.R_after (v := (.slice (some ⟨go18, 0, none⟩) x9_2.length co18)) (v1 := (.slice (some ⟨go18, 0, none⟩) x9_2.length co18)) (ok := (fun _ => True)) pla2_3 hg (.inl rfl)); replace HB := Aside0.mk ((by rw [hw]; exact below_set (HB.out) GB18.out : Below w.heap.size w w22)); clear hg hw hp_; have p20 : 0 ≤ (x12_2 : Int) := of_decide_eq_true pbb2_4; have q20 : (x12_2 : Int) < ((x10_2.length : Int) : Int) := of_decide_eq_true pbb2_4; obtain ⟨go20, co20, eo20, gb20, gl20, cl20, HG20⟩ := Kd.R_form HO_10.out (by omega); (first | cases eo20 | (injection eo20 with ea_ en_ ec_; (first | subst ea_ | (injection ea_ with ea_; subst ea_)); subst ec_; clear en_)); have GB20 := Aside0.mk gb20; have GG20 := Aside0.mk HG20; clear gb20 gl20 HG20; obtain ⟨hx20_0, hf20_0⟩ := Kd.R_celln 0 HO_10.out (x12_2 : Int) p20 q20; replace p20 := eq_true p20; replace q20 := eq_true q20; have n_ := Aside0.mk (Kd.R_mono (ok' := (fun k_ => some k_ ≠ (.slice (some ⟨go18, 0, none⟩) x9_2.length co18 : Value).ownBlock)) HO_10.out (fun k_ hk => hk.2)); clear HO_10; have HO_10 := n_; clear n_; obtain ⟨hy23_, hz23_⟩ := Kd.R_celln 0 HO_10.out (x12_2 : Int) (of_decide_eq_true pbb2_4) (of_decide_eq_true pbb2_4); have HP23 := Kd.R_putg HO_10.out (x12_2 : Int) t113) | ((with_reducible refine gate_store (t := 3) (p := 74) rfl ?_); (try (rw [drewN_self w22]; generalize hq_ : World.drewN w22 _ = w22; have n0_ := Aside0.mk (Kd.R_at hq_ HO_9.out); have n1_ := Aside0.mk (Kd.R_at hq_ HO_10.out); have n2_ := Aside0.mk (below_at hq_ HB.out); clear hq_ HO_9 HO_10 HB; have HO_9 := n0_; have HO_10 := n1_; have HB := n2_; clear n0_ n1_ n2_; (try (have n_ := Aside0.mk (Kd.R_mono (ok' := (fun k_ => some k_ ≠ (.slice (some ⟨go18, 0, none⟩) x9_2.length co18 : Value).ownBlock)) HO_10.out (fun k_ hk => hk.2)); clear HO_10; have HO_10 := n_; clear n_)); (try (obtain ⟨hy23_, hz23_⟩ := Kd.R_celln 0 HO_10.out (x12_2 : Int) (of_decide_eq_true pbb2_4) (of_decide_eq_true pbb2_4))); (try (have HP23 := Kd.R_putg HO_10.out (x12_2 : Int) t113)))); refine store_event (t := 3) (p := 74) (v := ?vo_w24) (w1 := (w22.setCell ⟨go20, (x12_2 : Int).toNat, none⟩ (.int .i64 t113))) ?hg ?ho ?hn ?hr ?_; (case ho => rfl); (case hg => rfl); (case hn => rfl); (case hr => first | (go_simp; done) | (go_simp; rfl)); intro w24 hw; have hg : w22.grownBy w24 (some go20) := (by rw [hw]; exact HP23.2); have hp_ : Kd.R (Kd.int .i64) 3 w24 w.heap.size (fun k_ => some k_ ≠ (.slice (some ⟨go18, 0, none⟩) x9_2.length co18 : Value).ownBlock) (.slice (some ⟨go20, 0, none⟩) x10_2.length co20) y116 := (by rw [hw, Ny116.out]; exact HP23.1); clear HP23; replace HO_9 := Aside0.mk (Kd.R_after (v := (.slice (some ⟨go20, 0, none⟩) x10_2.length co20)) (v1 := (.slice (some ⟨go20, 0, none⟩) x10_2.length co20)) (ok := (fun _ => True)) pla2_4 hg (.inl rfl)); replace HO_10 := Aside0.mk (hp_); replace HB := Aside0.mk ((by rw [hw]; exact below_set (HB.out) GB20.out : Below w.heap.size w w24)); clear hg hw hp_; have p117 : 0 ≤ (x12_2 : Int) := of_decide_eq_true pbb2_4; have q117 : x12_2 < (y115.length : Int) := (by have h_ : (x12_2 : Int) < ((x9_2.length : Int) : Int) := of_decide_eq_true pbb2_4; first | (have e_ := (Kd.R_reads' HO_9.out).1; omega) | simpa only [Ny115.out, List.length_set] using h_); have ql117 : ((x12_2 : Int) < ((x9_2.length : Int) : Int)) = True := eq_true (of_decide_eq_true pbb2_4); obtain ⟨ad117, e117, hx117_0⟩ := Kd.at_int (Kd.R_reads' HO_9.out).2.2 x12_2 p117 q117; obtain rfl : (⟨go18, 0, none⟩ : Addr) = ad117 := (by injection e117); (first | simp only [add_plain] at hx117_0 | simp only [add_at] at hx117_0 | simp only [Addr.add, Nat.zero_add] at hx117_0 | skip); replace p117 := eq_true p117; replace q117 := eq_true q117))
            repeat (go_quiet (first | (go_at_call 59; (with_reducible refine (F59.calls k2 x8_4 (rd l1 x12_2) t101 1 t110 t111 _ A15.out).mono ?_); rintro e w' ⟨rfl, ⟨nd, rfl⟩⟩; (try first | exact ⟨rfl, _, World.drewN_drewN _ _ _⟩ | exact ⟨rfl, _, Eq.trans (World.drewN_drewN _ _ _) (congrArg (World.drewN _) (Nat.add_assoc _ _ _))⟩); have p112 : 0 ≤ (x12_2 : Int) := of_decide_eq_true pbb2_4; have q112 : x12_2 < (l1.length : Int) := of_decide_eq_true pbb2_4; obtain ⟨ad112, e112, hx112_0⟩ := Kd.at_int HR1.out x12_2 p112 q112; obtain rfl : ad109 = ad112 := (by injection e112); replace hx112_0 := (HB.out.cell (World.block_lt_of_cell? w _ hx112_0)).trans hx112_0; replace p112 := eq_true p112; replace q112 := eq_true q112) | (go_at_call 60; (with_reducible refine (F60.calls k2 x8_4 (rd l1 x12_2) t101 t113 t114 _ A16.out).mono ?_); rintro e w' ⟨rfl, ⟨nd, rfl⟩⟩; (try first | exact ⟨rfl, _, World.drewN_drewN _ _ _⟩ | exact ⟨rfl, _, Eq.trans (World.drewN_drewN _ _ _) (congrArg (World.drewN _) (Nat.add_assoc _ _ _))⟩); have p18 : 0 ≤ (x12_2 : Int) := of_decide_eq_true pbb2_4; have q18 : (x12_2 : Int) < ((x9_2.length : Int) : Int) := of_decide_eq_true pbb2_4; obtain ⟨go18, co18, eo18, gb18, gl18, cl18, HG18⟩ := Kd.R_form HO_9.out (by omega); (first | cases eo18 | (injection eo18 with ea_ en_ ec_; (first | subst ea_ | (injection ea_ with ea_; subst ea_)); subst ec_; clear en_)); have GB18 := Aside0.mk gb18; have GG18 := Aside0.mk HG18; clear gb18 gl18 HG18; obtain ⟨hx18_0, hf18_0⟩ := Kd.R_celln 0 HO_9.out (x12_2 : Int) p18 q18; replace p18 := eq_true p18; replace q18 := eq_true q18; obtain ⟨hy21_, hz21_⟩ := Kd.R_celln 0 HO_9.out (x12_2 : Int) (of_decide_eq_true pbb2_4) (of_decide_eq_true pbb2_4); have HP21 := Kd.R_putg HO_9.out (x12_2 : Int) t110) | ((with_reducible refine gate_store (t := 3) (p := 70) rfl ?_); (try (rw [drewN_self wr]; generalize hq_ : World.drewN wr _ = wr; have n0_ := Aside0.mk (Kd.R_at hq_ HO_9.out); have n1_ := Aside0.mk (Kd.R_at hq_ HO_10.out); have n2_ := Aside0.mk (below_at hq_ HB.out); clear hq_ HO_9 HO_10 HB; have HO_9 := n0_; have HO_10 := n1_; have HB := n2_; clear n0_ n1_ n2_; (try (obtain ⟨hy21_, hz21_⟩ := Kd.R_celln 0 HO_9.out (x12_2 : Int) (of_decide_eq_true pbb2_4) (of_decide_eq_true pbb2_4))); (try (have HP21 := Kd.R_putg HO_9.out (x12_2 : Int) t110)))); refine store_event (t := 3) (p := 70) (v := ?vo_w22) (w1 := (wr.setCell ⟨go18, (x12_2 : Int).toNat, none⟩ (.int .i64 t110))) ?hg ?ho ?hn ?hr ?_; (case ho => rfl); (case hg => rfl); (case hn => rfl); (case hr => first | (go_simp; done) | (go_simp; rfl)); intro w22 hw; have hg : wr.grownBy w22 (some go18) := (by rw [hw]; exact HP21.2); have hp_ : Kd.R (Kd.int .i64) 3 w22 w.heap.size (fun k_ => some k_ ≠ (v107 : Value).ownBlock) (.slice (some ⟨go18, 0, none⟩) x9_2.length co18) y115 := (by rw [hw, Ny115.out]; exact HP21.1); clear HP21; replace HO_9 := Aside0.mk (hp_); replace HO_10 := Aside0.mk (Kd.R_after (v := (.slice (some ⟨go18, 0, none⟩) x9_2.length co18)) (v1 := (.slice (some ⟨go18, 0, none⟩) x9_2.length co18)) (ok := (fun _ => True)) pla2_3 hg (.inl rfl)); replace HB := Aside0.mk ((by rw [hw]; exact below_set (HB.out) GB18.out : Below w.heap.size w w22)); clear hg hw hp_; have p20 : 0 ≤ (x12_2 : Int) := of_decide_eq_true pbb2_4; have q20 : (x12_2 : Int) < ((x10_2.length : Int) : Int) := of_decide_eq_true pbb2_4; obtain ⟨go20, co20, eo20, gb20, gl20, cl20, HG20⟩ := Kd.R_form HO_10.out (by omega); (first | cases eo20 | (injection eo20 with ea_ en_ ec_; (first | subst ea_ | (injection ea_ with ea_; subst ea_)); subst ec_; clear en_)); have GB20 := Aside0.mk gb20; have GG20 := Aside0.mk HG20; clear gb20 gl20 HG20; obtain ⟨hx20_0, hf20_0⟩ := Kd.R_celln 0 HO_10.out (x12_2 : Int) p20 q20; replace p20 := eq_true p20; replace q20 := eq_true q20; have n_ := Aside0.mk (Kd.R_mono (ok' := (fun k_ => some k_ ≠ (.slice (some ⟨go18, 0, none⟩) x9_2.length co18 : Value).ownBlock)) HO_10.out (fun k_ hk => hk.2)); clear HO_10; have HO_10 := n_; clear n_; obtain ⟨hy23_, hz23_⟩ := Kd.R_celln 0 HO_10.out (x12_2 : Int) (of_decide_eq_true pbb2_4) (of_decide_eq_true pbb2_4); have HP23 := Kd.R_putg HO_10.out (x12_2 : Int) t113) | ((with_reducible refine gate_store (t := 3) (p := 74) rfl ?_); (try (rw [drewN_self w22]; generalize hq_ : World.drewN w22 _ = w22; have n0_ := Aside0.mk (Kd.R_at hq_ HO_9.out); have n1_ := Aside0.mk (Kd.R_at hq_ HO_10.out); have n2_ := Aside0.mk (below_at hq_ HB.out); clear hq_ HO_9 HO_10 HB; have HO_9 := n0_; have HO_10 := n1_; have HB := n2_; clear n0_ n1_ n2_; (try (have n_ := Aside0.mk (Kd.R_mono (ok' := (fun k_ => some k_ ≠ (.slice (some ⟨go18, 0, none⟩) x9_2.length co18 : Value).ownBlock)) HO_10.out (fun k_ hk => hk.2)); clear HO_10; have HO_10 := n_; clear n_)); (try (obtain ⟨hy23_, hz23_⟩ := Kd.R_celln 0 HO_10.out (x12_2 : Int) (of_decide_eq_true pbb2_4) (of_decide_eq_true pbb2_4))); (try (have HP23 := Kd.R_putg HO_10.out (x12_2 : Int) t113)))); refine store_event (t := 3) (p := 74) (v := ?vo_w24) (w1 := (w22.setCell ⟨go20, (x12_2 : Int).toNat, none⟩ (.int .i64 t113))) ?hg ?ho ?hn ?hr ?_; (case ho => rfl); (case hg => rfl); (case hn => rfl); (case hr => first | (go_simp; done) | (go_simp; rfl)); intro w24 hw; have hg : w22.grownBy w24 (some go20) := (by rw [hw]; exact HP23.2); have hp_ : Kd.R (Kd.int .i64) 3 w24 w.heap.size (fun k_ => some k_ ≠ (.slice (some ⟨go18, 0, none⟩) x9_2.length co18 : Value).ownBlock) (.slice (some ⟨go20, 0, none⟩) x10_2.length co20) y116 := (by rw [hw, Ny116.out]; exact HP23.1); clear HP23; replace HO_9 := Aside0.mk (Kd.R_after (v := (.slice (some ⟨go20, 0, none⟩) x10_2.length co20)) (v1 := (.slice (some ⟨go20, 0, none⟩) x10_2.length co20)) (ok := (fun _ => True)) pla2_4 hg (.inl rfl)); replace HO_10 := Aside0.mk (hp_); replace HB := Aside0.mk ((by rw [hw]; exact below_set (HB.out) GB20.out : Below w.heap.size w w24)); clear hg hw hp_; have p117 : 0 ≤ (x12_2 : Int) := of_decide_eq_true pbb2_4; have q117 : x12_2 < (y115.length : Int) := (by have h_ : (x12_2 : Int) < ((x9_2.length : Int) : Int) := of_decide_eq_true pbb2_4; first | (have e_ := (Kd.R_reads' HO_9.out).1; omega) | simpa only [Ny115.out, List.length_set] using h_); have ql117 : ((x12_2 : Int) < ((x9_2.length : Int) : Int)) = True := eq_true (of_decide_eq_true pbb2_4); obtain ⟨ad117, e117, hx117_0⟩ := Kd.at_int (Kd.R_reads' HO_9.out).2.2 x12_2 p117 q117; obtain rfl : (⟨go18, 0, none⟩ : Addr) = ad117 := (by injection e117); (first | simp only [add_plain] at hx117_0 | simp only [add_at] at hx117_0 | simp only [Addr.add, Nat.zero_add] at hx117_0 | skip); replace p117 := eq_true p117; replace q117 := eq_true q117)); try go_wp2_with (first | (go_at_call 59; (with_reducible refine (F59.calls k2 x8_4 (rd l1 x12_2) t101 1 t110 t111 _ A15.out).mono ?_); rintro e w' ⟨rfl, ⟨nd, rfl⟩⟩; (try first | exact ⟨rfl, _, World.drewN_drewN _ _ _⟩ | exact ⟨rfl, _, Eq.trans (World.drewN_drewN _ _ _) (congrArg (World.drewN _) (Nat.add_assoc _ _ _))⟩); have p112 : 0 ≤ (x12_2 : Int) := of_decide_eq_true pbb2_4; have q112 : x12_2 < (l1.length : Int) := of_decide_eq_true pbb2_4; obtain ⟨ad112, e112, hx112_0⟩ := Kd.at_int HR1.out x12_2 p112 q112; obtain rfl : ad109 = ad112 := (by injection e112); replace hx112_0 := (HB.out.cell (World.block_lt_of_cell? w _ hx112_0)).trans hx112_0; replace p112 := eq_true p112; replace q112 := eq_true q112) | (go_at_call 60; (with_reducible refine (F60.calls k2 x8_4 (rd l1 x12_2) t101 t113 t114 _ A16.out).mono ?_); rintro e w' ⟨rfl, ⟨nd, rfl⟩⟩; (try first | exact ⟨rfl, _, World.drewN_drewN _ _ _⟩ | exact ⟨rfl, _, Eq.trans (World.drewN_drewN _ _ _) (congrArg (World.drewN _) (Nat.add_assoc _ _ _))⟩); have p18 : 0 ≤ (x12_2 : Int) := of_decide_eq_true pbb2_4; have q18 : (x12_2 : Int) < ((x9_2.length : Int) : Int) := of_decide_eq_true pbb2_4; obtain ⟨go18, co18, eo18, gb18, gl18, cl18, HG18⟩ := Kd.R_form HO_9.out (by omega); (first | cases eo18 | (injection eo18 with ea_ en_ ec_; (first | subst ea_ | (injection ea_ with ea_; subst ea_)); subst ec_; clear en_)); have GB18 := Aside0.mk gb18; have GG18 := Aside0.mk HG18; clear gb18 gl18 HG18; obtain ⟨hx18_0, hf18_0⟩ := Kd.R_celln 0 HO_9.out (x12_2 : Int) p18 q18; replace p18 := eq_true p18; replace q18 := eq_true q18; obtain ⟨hy21_, hz21_⟩ := Kd.R_celln 0 HO_9.out (x12_2 : Int) (of_decide_eq_true pbb2_4) (of_decide_eq_true pbb2_4); have HP21 := Kd.R_putg HO_9.out (x12_2 : Int) t110) | ((with_reducible refine gate_store (t := 3) (p := 70) rfl ?_); (try (rw [drewN_self wr]; generalize hq_ : World.drewN wr _ = wr; have n0_ := Aside0.mk (Kd.R_at hq_ HO_9.out); have n1_ := Aside0.mk (Kd.R_at hq_ HO_10.out); have n2_ := Aside0.mk (below_at hq_ HB.out); clear hq_ HO_9 HO_10 HB; have HO_9 := n0_; have HO_10 := n1_; have HB := n2_; clear n0_ n1_ n2_; (try (obtain ⟨hy21_, hz21_⟩ := Kd.R_celln 0 HO_9.out (x12_2 : Int) (of_decide_eq_true pbb2_4) (of_decide_eq_true pbb2_4))); (try (have HP21 := Kd.R_putg HO_9.out (x12_2 : Int) t110)))); refine store_event (t := 3) (p := 70) (v := ?vo_w22) (w1 := (wr.setCell ⟨go18, (x12_2 : Int).toNat, none⟩ (.int .i64 t110))) ?hg ?ho ?hn ?hr ?_; (case ho => rfl); (case hg => rfl); (case hn => rfl); (case hr => first | (go_simp; done) | (go_simp; rfl)); intro w22 hw; have hg : wr.grownBy w22 (some go18) := (by rw [hw]; exact HP21.2); have hp_ : Kd.R (Kd.int .i64) 3 w22 w.heap.size (fun k_ => some k_ ≠ (v107 : Value).ownBlock) (.slice (some ⟨go18, 0, none⟩) x9_2.length co18) y115 := (by rw [hw, Ny115.out]; exact HP21.1); clear HP21; replace HO_9 := Aside0.mk (hp_); replace HO_10 := Aside0.mk (Kd.R_after (v := (.slice (some ⟨go18, 0, none⟩) x9_2.length co18)) (v1 := (.slice (some ⟨go18, 0, none⟩) x9_2.length co18)) (ok := (fun _ => True)) pla2_3 hg (.inl rfl)); replace HB := Aside0.mk ((by rw [hw]; exact below_set (HB.out) GB18.out : Below w.heap.size w w22)); clear hg hw hp_; have p20 : 0 ≤ (x12_2 : Int) := of_decide_eq_true pbb2_4; have q20 : (x12_2 : Int) < ((x10_2.length : Int) : Int) := of_decide_eq_true pbb2_4; obtain ⟨go20, co20, eo20, gb20, gl20, cl20, HG20⟩ := Kd.R_form HO_10.out (by omega); (first | cases eo20 | (injection eo20 with ea_ en_ ec_; (first | subst ea_ | (injection ea_ with ea_; subst ea_)); subst ec_; clear en_)); have GB20 := Aside0.mk gb20; have GG20 := Aside0.mk HG20; clear gb20 gl20 HG20; obtain ⟨hx20_0, hf20_0⟩ := Kd.R_celln 0 HO_10.out (x12_2 : Int) p20 q20; replace p20 := eq_true p20; replace q20 := eq_true q20; have n_ := Aside0.mk (Kd.R_mono (ok' := (fun k_ => some k_ ≠ (.slice (some ⟨go18, 0, none⟩) x9_2.length co18 : Value).ownBlock)) HO_10.out (fun k_ hk => hk.2)); clear HO_10; have HO_10 := n_; clear n_; obtain ⟨hy23_, hz23_⟩ := Kd.R_celln 0 HO_10.out (x12_2 : Int) (of_decide_eq_true pbb2_4) (of_decide_eq_true pbb2_4); have HP23 := Kd.R_putg HO_10.out (x12_2 : Int) t113) | ((with_reducible refine gate_store (t := 3) (p := 74) rfl ?_); (try (rw [drewN_self w22]; generalize hq_ : World.drewN w22 _ = w22; have n0_ := Aside0.mk (Kd.R_at hq_ HO_9.out); have n1_ := Aside0.mk (Kd.R_at hq_ HO_10.out); have n2_ := Aside0.mk (below_at hq_ HB.out); clear hq_ HO_9 HO_10 HB; have HO_9 := n0_; have HO_10 := n1_; have HB := n2_; clear n0_ n1_ n2_; (try (have n_ := Aside0.mk (Kd.R_mono (ok' := (fun k_ => some k_ ≠ (.slice (some ⟨go18, 0, none⟩) x9_2.length co18 : Value).ownBlock)) HO_10.out (fun k_ hk => hk.2)); clear HO_10; have HO_10 := n_; clear n_)); (try (obtain ⟨hy23_, hz23_⟩ := Kd.R_celln 0 HO_10.out (x12_2 : Int) (of_decide_eq_true pbb2_4) (of_decide_eq_true pbb2_4))); (try (have HP23 := Kd.R_putg HO_10.out (x12_2 : Int) t113)))); refine store_event (t := 3) (p := 74) (v := ?vo_w24) (w1 := (w22.setCell ⟨go20, (x12_2 : Int).toNat, none⟩ (.int .i64 t113))) ?hg ?ho ?hn ?hr ?_; (case ho => rfl); (case hg => rfl); (case hn => rfl); (case hr => first | (go_simp; done) | (go_simp; rfl)); intro w24 hw; have hg : w22.grownBy w24 (some go20) := (by rw [hw]; exact HP23.2); have hp_ : Kd.R (Kd.int .i64) 3 w24 w.heap.size (fun k_ => some k_ ≠ (.slice (some ⟨go18, 0, none⟩) x9_2.length co18 : Value).ownBlock) (.slice (some ⟨go20, 0, none⟩) x10_2.length co20) y116 := (by rw [hw, Ny116.out]; exact HP23.1); clear HP23; replace HO_9 := Aside0.mk (Kd.R_after (v := (.slice (some ⟨go20, 0, none⟩) x10_2.length co20)) (v1 := (.slice (some ⟨go20, 0, none⟩) x10_2.length co20)) (ok := (fun _ => True)) pla2_4 hg (.inl rfl)); replace HO_10 := Aside0.mk (hp_); replace HB := Aside0.mk ((by rw [hw]; exact below_set (HB.out) GB20.out : Below w.heap.size w w24)); clear hg hw hp_; have p117 : 0 ≤ (x12_2 : Int) := of_decide_eq_true pbb2_4; have q117 : x12_2 < (y115.length : Int) := (by have h_ : (x12_2 : Int) < ((x9_2.length : Int) : Int) := of_decide_eq_true pbb2_4; first | (have e_ := (Kd.R_reads' HO_9.out).1; omega) | simpa only [Ny115.out, List.length_set] using h_); have ql117 : ((x12_2 : Int) < ((x9_2.length : Int) : Int)) = True := eq_true (of_decide_eq_true pbb2_4); obtain ⟨ad117, e117, hx117_0⟩ := Kd.at_int (Kd.R_reads' HO_9.out).2.2 x12_2 p117 q117; obtain rfl : (⟨go18, 0, none⟩ : Addr) = ad117 := (by injection e117); (first | simp only [add_plain] at hx117_0 | simp only [add_at] at hx117_0 | simp only [Addr.add, Nat.zero_add] at hx117_0 | skip); replace p117 := eq_true p117; replace q117 := eq_true q117)))
            go_roundg k2
            case measure => have := HJ4.out; have := HK2.out; omega
            case rel => exact ⟨(y115), (y116), (wrap64 (x11_2 - (rd y115 x12_2))), (wrap64 (x12_2 + 1)), pbb2_0, pbb2_0, H', ⟨by have := HJ4.out; have := HK2.out; omega⟩, ⟨by (with_reducible repeat (first | apply Kd.R_alloc | apply Kd.R_drewN | apply Kd.R_drew)); exact Kd.R_mono HO_9.out (fun _ hk => hk.2)⟩, ⟨pbb7_9⟩, ⟨pbb2_3⟩⟩
           ·rw [if_neg c19] at H; exact absurd H (by simp)
          ·rw [if_neg c17] at H; exact absurd H (by simp)
         ·rw [if_neg c14] at H; exact absurd H (by simp)
        ·rw [if_neg c13] at H; have c13b0 := decide_eq_false c13; clear c13; have H' := Aside0.mk H; clear H
         go_wp2
         repeat (go_quiet (fail); try go_wp2)
         go_loopg [11] k2 (fun kq v11 w' => ∃ (x9_3 : List Int) (x10_3 : List Int) (x11_3 : Int), v11 = .int .i64 x11_3 ∧ Aside0 (F46.l1 kq a0 x9_3 x10_3 x11_3 = some (r1, r2)) ∧ Aside0 (kq ≤ k2) ∧ Aside0 (Kd.R (Kd.int .i64) 3 w' w.heap.size (fun k_ => some k_ ≠ (v107 : Value).ownBlock) v104 x9_3) ∧ Aside0 (Kd.R (Kd.int .i64) 3 w' w.heap.size (fun k_ => some k_ ≠ (v104 : Value).ownBlock) v107 x10_3) ∧ Aside0 (Below w.heap.size w w'))
         case atStart => exact ⟨(x9_2), (x10_2), (x11_2), pbb2_0, H', ⟨Nat.le_refl _⟩, ⟨pla2_5⟩, ⟨pbb7_9⟩, ⟨pbb2_3⟩⟩
         case round =>
          clear H'; (try clear hf2); (try clear hf18); (try clear hf20); obtain ⟨x9_3, x10_3, x11_3, rfl, HA, HK3, HO_9, HO_10, HB⟩ := hrel
          cases gk with
          | zero => exact absurd HA.out (by simp [F46.l1])
          | succ k3 =>
           have H := HA.out; clear HA; simp only [F46.l1] at H
           by_cases c25 : x11_3 > 0
           ·rw [if_pos c25] at H; have c25b0 : decide (0 < x11_3) = true := decide_eq_true c25; clear c25; have H' := Aside0.mk H; clear H
            go_wp2
            repeat (go_quiet (fail); try go_wp2)
            go_loopg [17, 18] k3 (fun kq v17 v18 w' => ∃ (x17_4 : Int) (x18_4 : Int), v17 = .int .i64 x17_4 ∧ v18 = .int .i64 x18_4 ∧ Aside0 (F46.l2 kq a0 x9_3 x10_3 x11_3 x17_4 x18_4 = some (r1, r2)) ∧ Aside0 (kq ≤ k3) ∧ Aside0 (Kd.R (Kd.int .i64) 3 w' w.heap.size (fun k_ => some k_ ≠ (v107 : Value).ownBlock) v104 x9_3) ∧ Aside0 (Kd.R (Kd.int .i64) 3 w' w.heap.size (fun k_ => some k_ ≠ (v104 : Value).ownBlock) v107 x10_3) ∧ Aside0 (Below w.heap.size w w'))
            case atStart => exact ⟨(0), (0), pbb2_0, pbb2_0, H', ⟨Nat.le_refl _⟩, ⟨pla2_5⟩, ⟨pbb7_9⟩, ⟨pbb2_3⟩⟩
            case round =>
             clear H'; (try clear hf2); (try clear hf18); (try clear hf20); obtain ⟨x17_4, x18_4, rfl, rfl, HA, HK4, HO_9, HO_10, HB⟩ := hrel
             cases gk with
             | zero => exact absurd HA.out (by simp [F46.l2])
             | succ k4 =>
              have H := HA.out; clear HA; simp only [F46.l2] at H
              by_cases c26 : x18_4 < (x10_3.length : Int)
              ·rw [if_pos c26] at H; have c26b0 := decide_eq_true c26; clear c26
               by_cases c27 : 0 ≤ x18_4
               ·rw [if_pos c27] at H; have c27b0 := decide_eq_true c27; clear c27
                by_cases c28 : 0 ≤ x17_4
                ·rw [if_pos c28] at H; have c28b0 := decide_eq_true c28; clear c28
                 by_cases c29 : x17_4 < (x10_3.length : Int)
                 ·rw [if_pos c29] at H; have c29b0 := decide_eq_true c29; clear c29
                  by_cases c30 : (rd x10_3 x18_4) > (rd x10_3 x17_4)
                  ·rw [if_pos c30] at H; have c30b0 : decide ((rd x10_3 x17_4) < (rd x10_3 x18_4)) = true := decide_eq_true c30; clear c30; have H' := Aside0.mk H; clear H; obtain ⟨Ao31, co31, eo31⟩ := Kd.R_slice HO_10.out; subst eo31; have p118 : 0 ≤ (x18_4 : Int) := of_decide_eq_true pbb2_4; have q118 : x18_4 < (x10_3.length : Int) := of_decide_eq_true pbb2_4; obtain ⟨ad118, e118, hx118_0⟩ := Kd.at_int (Kd.R_reads' HO_10.out).2.2 x18_4 p118 q118
                   cases e118
                   replace p118 := eq_true p118; replace q118 := eq_true q118; have p119 : 0 ≤ (x17_4 : Int) := of_decide_eq_true pbb2_4; have q119 : x17_4 < (x10_3.length : Int) := of_decide_eq_true pbb2_4; obtain ⟨ad119, e119, hx119_0⟩ := Kd.at_int (Kd.R_reads' HO_10.out).2.2 x17_4 p119 q119; obtain rfl : ad118 = ad119 := (by injection e119); replace p119 := eq_true p119; replace q119 := eq_true q119
                   go_wp2
                   repeat (go_quiet (fail); try go_wp2)
                   go_roundg k4
                   case measure => have := HJ4.out; have := HK2.out; have := HK3.out; have := HK4.out; omega
                   case rel => exact ⟨(x18_4), (wrap64 (x18_4 + 1)), pbb2_0, pbb2_0, H', ⟨pla2_6⟩, ⟨pla2_5⟩, ⟨pbb7_9⟩, ⟨pbb2_3⟩⟩
                  ·rw [if_neg c30] at H; have c30b0 : decide ((rd x10_3 x17_4) < (rd x10_3 x18_4)) = false := decide_eq_false c30; clear c30; have H' := Aside0.mk H; clear H; obtain ⟨Ao32, co32, eo32⟩ := Kd.R_slice HO_10.out; subst eo32; have p118 : 0 ≤ (x18_4 : Int) := of_decide_eq_true pbb2_4; have q118 : x18_4 < (x10_3.length : Int) := of_decide_eq_true pbb2_4; obtain ⟨ad118, e118, hx118_0⟩ := Kd.at_int (Kd.R_reads' HO_10.out).2.2 x18_4 p118 q118
                   cases e118
                   replace p118 := eq_true p118; replace q118 := eq_true q118; have p119 : 0 ≤ (x17_4 : Int) := of_decide_eq_true pbb2_4; have q119 : x17_4 < (x10_3.length : Int) := of_decide_eq_true pbb2_4; obtain ⟨ad119, e119, hx119_0⟩ := Kd.at_int (Kd.R_reads' HO_10.out).2.2 x17_4 p119 q119; obtain rfl : ad118 = ad119 := (by injection e119); replace p119 := eq_true p119; replace q119 := eq_true q119
                   go_wp2
                   repeat (go_quiet (fail); try go_wp2)
                   go_roundg k4
                   case measure => have := HJ4.out; have := HK2.out; have := HK3.out; have := HK4.out; omega
                   case rel => exact ⟨(x17_4), (wrap64 (x18_4 + 1)), pbb2_0, pbb2_0, H', ⟨pla2_6⟩, ⟨pla2_5⟩, ⟨pbb7_9⟩, ⟨pbb2_3⟩⟩
                 ·rw [if_neg c29] at H; exact absurd H (by simp)
                ·rw [if_neg c28] at H; exact absurd H (by simp)
               ·rw [if_neg c27] at H; exact absurd H (by simp)
              ·rw [if_neg c26] at H; have c26b0 := decide_eq_false c26; clear c26
               by_cases c33 : 0 ≤ x17_4
               ·rw [if_pos c33] at H; have c33b0 := decide_eq_true c33; clear c33
                by_cases c34 : x17_4 < (x9_3.length : Int)
                ·rw [if_pos c34] at H; have c34b0 := decide_eq_true c34; clear c34; obtain ⟨y121, hy121⟩ : ∃ y_ : List Int, y_ = (x9_3.set (x17_4 : Int).toNat (wrap64 ((rd x9_3 x17_4) + 1))) := ⟨_, rfl⟩; replace H : (if x17_4 < (x10_3.length : Int) then (F46.l1 k4 a0 y121 (x10_3.set (x17_4 : Int).toNat (-1)) (wrap64 (x11_3 - 1))) else (none)) = some (r1, r2) := by first | (rw [hy121]; with_reducible exact H) | (have H2_ := (Option.bind_some _ _).symm.trans H; rw [hy121]; with_reducible exact H2_) | (have H2_ := (Option.bind_some _ _).symm.trans H; with_reducible exact H2_) | with_reducible exact H | (rw [hy121]; exact H) | exact H
                 have Ny121 := Aside0.mk hy121; clear hy121
                 by_cases c36 : x17_4 < (x10_3.length : Int)
                 ·rw [if_pos c36] at H; have c36b0 := decide_eq_true c36; clear c36; obtain ⟨y122, hy122⟩ : ∃ y_ : List Int, y_ = (x10_3.set (x17_4 : Int).toNat (-1)) := ⟨_, rfl⟩; replace H : (F46.l1 k4 a0 y121 y122 (wrap64 (x11_3 - 1))) = some (r1, r2) := by first | (rw [hy122]; with_reducible exact H) | (have H2_ := (Option.bind_some _ _).symm.trans H; rw [hy122]; with_reducible exact H2_) | (have H2_ := (Option.bind_some _ _).symm.trans H; with_reducible exact H2_) | with_reducible exact H | (rw [hy122]; exact H) | exact H
                  have Ny122 := Aside0.mk hy122; clear hy122; have H' := Aside0.mk H; clear H; obtain ⟨Ao38, co38, eo38⟩ := Kd.R_slice HO_10.out; subst eo38; obtain ⟨Ao39, co39, eo39⟩ := Kd.R_slice HO_9.out; subst eo39; have p120 : 0 ≤ (x17_4 : Int) := of_decide_eq_true pbb2_4; have q120 : x17_4 < (x9_3.length : Int) := of_decide_eq_true pbb2_4; obtain ⟨ad120, e120, hx120_0⟩ := Kd.at_int (Kd.R_reads' HO_9.out).2.2 x17_4 p120 q120
                  cases e120
                  replace p120 := eq_true p120; replace q120 := eq_true q120; have p35 : 0 ≤ (x17_4 : Int) := of_decide_eq_true pbb2_4; have q35 : (x17_4 : Int) < ((x9_3.length : Int) : Int) := of_decide_eq_true pbb2_4; obtain ⟨go35, co35, eo35, gb35, gl35, cl35, HG35⟩ := Kd.R_form HO_9.out (by omega); (first | cases eo35 | (injection eo35 with ea_ en_ ec_; (first | subst ea_ | (injection ea_ with ea_; subst ea_)); subst ec_; clear en_)); have GB35 := Aside0.mk gb35; have GG35 := Aside0.mk HG35; clear gb35 gl35 HG35; (first | simp only [add_plain] at hx120_0 | skip); obtain ⟨hx35_0, hf35_0⟩ := Kd.R_celln 0 HO_9.out (x17_4 : Int) p35 q35; replace p35 := eq_true p35; replace q35 := eq_true q35; have HP40 := Kd.R_putg HO_9.out (x17_4 : Int) (wrap64 ((rd x9_3 x17_4) + 1))
                  go_wp2_with (first | ((with_reducible refine gate_store (t := 3) (p := 106) rfl ?_); (try (rw [drewN_self wr]; generalize hq_ : World.drewN wr _ = wr; have n0_ := Aside0.mk (Kd.R_at hq_ HO_9.out); have n1_ := Aside0.mk (Kd.R_at hq_ HO_10.out); have n2_ := Aside0.mk (below_at hq_ HB.out); clear hq_ HO_9 HO_10 HB; have HO_9 := n0_; have HO_10 := n1_; have HB := n2_; clear n0_ n1_ n2_; (try (have HP40 := Kd.R_putg HO_9.out (x17_4 : Int) (wrap64 ((rd x9_3 x17_4) + 1)))))); refine store_event (t := 3) (p := 106) (v := ?vo_w41) (w1 := (wr.setCell ⟨go35, (x17_4 : Int).toNat, none⟩ (.int .i64 (wrap64 ((rd x9_3 x17_4) + 1))))) ?hg ?ho ?hn ?hr ?_; (case ho => rfl); (case hg => rfl); (case hn => rfl); (case hr => first | (go_simp; done) | (go_simp; rfl)); intro w41 hw; have hg : wr.grownBy w41 (some go35) := (by rw [hw]; exact HP40.2); have hp_ : Kd.R (Kd.int .i64) 3 w41 w.heap.size (fun k_ => some k_ ≠ (.slice Ao38 x10_3.length co38 : Value).ownBlock) (.slice (some ⟨go35, 0, none⟩) x9_3.length co39) y121 := (by rw [hw, Ny121.out]; exact HP40.1); clear HP40; replace HO_9 := Aside0.mk (hp_); replace HO_10 := Aside0.mk (Kd.R_after (v := (.slice (some ⟨go35, 0, none⟩) x9_3.length co39)) (v1 := (.slice (some ⟨go35, 0, none⟩) x9_3.length co39)) (ok := (fun _ => True)) pla2_3 hg (.inl rfl)); replace HB := Aside0.mk ((by rw [hw]; exact below_set (HB.out) GB35.out : Below w.heap.size w w41)); clear hg hw hp_; have p37 : 0 ≤ (x17_4 : Int) := of_decide_eq_true pbb2_4; have q37 : (x17_4 : Int) < ((x10_3.length : Int) : Int) := of_decide_eq_true pbb2_4; obtain ⟨go37, co37, eo37, gb37, gl37, cl37, HG37⟩ := Kd.R_form HO_10.out (by omega); (first | cases eo37 | (injection eo37 with ea_ en_ ec_; (first | subst ea_ | (injection ea_ with ea_; subst ea_)); subst ec_; clear en_)); have GB37 := Aside0.mk gb37; have GG37 := Aside0.mk HG37; clear gb37 gl37 HG37; obtain ⟨hx37_0, hf37_0⟩ := Kd.R_celln 0 HO_10.out (x17_4 : Int) p37 q37; replace p37 := eq_true p37; replace q37 := eq_true q37; have n_ := Aside0.mk (Kd.R_mono (ok' := (fun k_ => some k_ ≠ (.slice (some ⟨go35, 0, none⟩) x9_3.length co39 : Value).ownBlock)) HO_10.out (fun k_ hk => hk.2)); clear HO_10; have HO_10 := n_; clear n_; obtain ⟨hy42_, hz42_⟩ := Kd.R_celln 0 HO_10.out (x17_4 : Int) (of_decide_eq_true pbb2_4) (of_decide_eq_true pbb2_4); have HP42 := Kd.R_putg HO_10.out (x17_4 : Int) (-1)) | ((with_reducible refine gate_store (t := 3) (p := 109) rfl ?_); (try (rw [drewN_self w41]; generalize hq_ : World.drewN w41 _ = w41; have n0_ := Aside0.mk (Kd.R_at hq_ HO_9.out); have n1_ := Aside0.mk (Kd.R_at hq_ HO_10.out); have n2_ := Aside0.mk (below_at hq_ HB.out); clear hq_ HO_9 HO_10 HB; have HO_9 := n0_; have HO_10 := n1_; have HB := n2_; clear n0_ n1_ n2_; (try (have n_ := Aside0.mk (Kd.R_mono (ok' := (fun k_ => some k_ ≠ (.slice (some ⟨go35, 0, none⟩) x9_3.length co39 : Value).ownBlock)) HO_10.out (fun k_ hk => hk.2)); clear HO_10; have HO_10 := n_; clear n_)); (try (obtain ⟨hy42_, hz42_⟩ := Kd.R_celln 0 HO_10.out (x17_4 : Int) (of_decide_eq_true pbb2_4) (of_decide_eq_true pbb2_4))); (try (have HP42 := Kd.R_putg HO_10.out (x17_4 : Int) (-1))))); refine store_event (t := 3) (p := 109) (v := ?vo_w43) (w1 := (w41.setCell ⟨go37, (x17_4 : Int).toNat, none⟩ (.int .i64 (-1)))) ?hg ?ho ?hn ?hr ?_; (case ho => rfl); (case hg => rfl); (case hn => rfl); (case hr => first | (go_simp; done) | (go_simp; rfl)); intro w43 hw; have hg : w41.grownBy w43 (some go37) := (by rw [hw]; exact HP42.2); have hp_ : Kd.R (Kd.int .i64) 3 w43 w.heap.size (fun k_ => some k_ ≠ (.slice (some ⟨go35, 0, none⟩) x9_3.length co39 : Value).ownBlock) (.slice (some ⟨go37, 0, none⟩) x10_3.length co38) y122 := (by rw [hw, Ny122.out]; exact HP42.1); clear HP42; replace HO_9 := Aside0.mk (Kd.R_after (v := (.slice (some ⟨go37, 0, none⟩) x10_3.length co38)) (v1 := (.slice (some ⟨go37, 0, none⟩) x10_3.length co38)) (ok := (fun _ => True)) pla2_4 hg (.inl rfl)); replace HO_10 := Aside0.mk (hp_); replace HB := Aside0.mk ((by rw [hw]; exact below_set (HB.out) GB37.out : Below w.heap.size w w43)); clear hg hw hp_))
                  repeat (go_quiet (first | ((with_reducible refine gate_store (t := 3) (p := 106) rfl ?_); (try (rw [drewN_self wr]; generalize hq_ : World.drewN wr _ = wr; have n0_ := Aside0.mk (Kd.R_at hq_ HO_9.out); have n1_ := Aside0.mk (Kd.R_at hq_ HO_10.out); have n2_ := Aside0.mk (below_at hq_ HB.out); clear hq_ HO_9 HO_10 HB; have HO_9 := n0_; have HO_10 := n1_; have HB := n2_; clear n0_ n1_ n2_; (try (have HP40 := Kd.R_putg HO_9.out (x17_4 : Int) (wrap64 ((rd x9_3 x17_4) + 1)))))); refine store_event (t := 3) (p := 106) (v := ?vo_w41) (w1 := (wr.setCell ⟨go35, (x17_4 : Int).toNat, none⟩ (.int .i64 (wrap64 ((rd x9_3 x17_4) + 1))))) ?hg ?ho ?hn ?hr ?_; (case ho => rfl); (case hg => rfl); (case hn => rfl); (case hr => first | (go_simp; done) | (go_simp; rfl)); intro w41 hw; have hg : wr.grownBy w41 (some go35) := (by rw [hw]; exact HP40.2); have hp_ : Kd.R (Kd.int .i64) 3 w41 w.heap.size (fun k_ => some k_ ≠ (.slice Ao38 x10_3.length co38 : Value).ownBlock) (.slice (some ⟨go35, 0, none⟩) x9_3.length co39) y121 := (by rw [hw, Ny121.out]; exact HP40.1); clear HP40; replace HO_9 := Aside0.mk (hp_); replace HO_10 := Aside0.mk (Kd.R_after (v := (.slice (some ⟨go35, 0, none⟩) x9_3.length co39)) (v1 := (.slice (some ⟨go35, 0, none⟩) x9_3.length co39)) (ok := (fun _ => True)) pla2_3 hg (.inl rfl)); replace HB := Aside0.mk ((by rw [hw]; exact below_set (HB.out) GB35.out : Below w.heap.size w w41)); clear hg hw hp_; have p37 : 0 ≤ (x17_4 : Int) := of_decide_eq_true pbb2_4; have q37 : (x17_4 : Int) < ((x10_3.length : Int) : Int) := of_decide_eq_true pbb2_4; obtain ⟨go37, co37, eo37, gb37, gl37, cl37, HG37⟩ := Kd.R_form HO_10.out (by omega); (first | cases eo37 | (injection eo37 with ea_ en_ ec_; (first | subst ea_ | (injection ea_ with ea_; subst ea_)); subst ec_; clear en_)); have GB37 := Aside0.mk gb37; have GG37 := Aside0.mk HG37; clear gb37 gl37 HG37; obtain ⟨hx37_0, hf37_0⟩ := Kd.R_celln 0 HO_10.out (x17_4 : Int) p37 q37; replace p37 := eq_true p37; replace q37 := eq_true q37; have n_ := Aside0.mk (Kd.R_mono (ok' := (fun k_ => some k_ ≠ (.slice (some ⟨go35, 0, none⟩) x9_3.length co39 : Value).ownBlock)) HO_10.out (fun k_ hk => hk.2)); clear HO_10; have HO_10 := n_; clear n_; obtain ⟨hy42_, hz42_⟩ := Kd.R_celln 0 HO_10.out (x17_4 : Int) (of_decide_eq_true pbb2_4) (of_decide_eq_true pbb2_4); have HP42 := Kd.R_putg HO_10.out (x17_4 : Int) (-1)) | ((with_reducible refine gate_store (t := 3) (p := 109) rfl ?_); (try (rw [drewN_self w41]; generalize hq_ : World.drewN w41 _ = w41; have n0_ := Aside0.mk (Kd.R_at hq_ HO_9.out); have n1_ := Aside0.mk (Kd.R_at hq_ HO_10.out); have n2_ := Aside0.mk (below_at hq_ HB.out); clear hq_ HO_9 HO_10 HB; have HO_9 := n0_; have HO_10 := n1_; have HB := n2_; clear n0_ n1_ n2_; (try (have n_ := Aside0.mk (Kd.R_mono (ok' := (fun k_ => some k_ ≠ (.slice (some ⟨go35, 0, none⟩) x9_3.length co39 : Value).ownBlock)) HO_10.out (fun k_ hk => hk.2)); clear HO_10; have HO_10 := n_; clear n_)); (try (obtain ⟨hy42_, hz42_⟩ := Kd.R_celln 0 HO_10.out (x17_4 : Int) (of_decide_eq_true pbb2_4) (of_decide_eq_true pbb2_4))); (try (have HP42 := Kd.R_putg HO_10.out (x17_4 : Int) (-1))))); refine store_event (t := 3) (p := 109) (v := ?vo_w43) (w1 := (w41.setCell ⟨go37, (x17_4 : Int).toNat, none⟩ (.int .i64 (-1)))) ?hg ?ho ?hn ?hr ?_; (case ho => rfl); (case hg => rfl); (case hn => rfl); (case hr => first | (go_simp; done) | (go_simp; rfl)); intro w43 hw; have hg : w41.grownBy w43 (some go37) := (by rw [hw]; exact HP42.2); have hp_ : Kd.R (Kd.int .i64) 3 w43 w.heap.size (fun k_ => some k_ ≠ (.slice (some ⟨go35, 0, none⟩) x9_3.length co39 : Value).ownBlock) (.slice (some ⟨go37, 0, none⟩) x10_3.length co38) y122 := (by rw [hw, Ny122.out]; exact HP42.1); clear HP42; replace HO_9 := Aside0.mk (Kd.R_after (v := (.slice (some ⟨go37, 0, none⟩) x10_3.length co38)) (v1 := (.slice (some ⟨go37, 0, none⟩) x10_3.length co38)) (ok := (fun _ => True)) pla2_4 hg (.inl rfl)); replace HO_10 := Aside0.mk (hp_); replace HB := Aside0.mk ((by rw [hw]; exact below_set (HB.out) GB37.out : Below w.heap.size w w43)); clear hg hw hp_)); try go_wp2_with (first | ((with_reducible refine gate_store (t := 3) (p := 106) rfl ?_); (try (rw [drewN_self wr]; generalize hq_ : World.drewN wr _ = wr; have n0_ := Aside0.mk (Kd.R_at hq_ HO_9.out); have n1_ := Aside0.mk (Kd.R_at hq_ HO_10.out); have n2_ := Aside0.mk (below_at hq_ HB.out); clear hq_ HO_9 HO_10 HB; have HO_9 := n0_; have HO_10 := n1_; have HB := n2_; clear n0_ n1_ n2_; (try (have HP40 := Kd.R_putg HO_9.out (x17_4 : Int) (wrap64 ((rd x9_3 x17_4) + 1)))))); refine store_event (t := 3) (p := 106) (v := ?vo_w41) (w1 := (wr.setCell ⟨go35, (x17_4 : Int).toNat, none⟩ (.int .i64 (wrap64 ((rd x9_3 x17_4) + 1))))) ?hg ?ho ?hn ?hr ?_; (case ho => rfl); (case hg => rfl); (case hn => rfl); (case hr => first | (go_simp; done) | (go_simp; rfl)); intro w41 hw; have hg : wr.grownBy w41 (some go35) := (by rw [hw]; exact HP40.2); have hp_ : Kd.R (Kd.int .i64) 3 w41 w.heap.size (fun k_ => some k_ ≠ (.slice Ao38 x10_3.length co38 : Value).ownBlock) (.slice (some ⟨go35, 0, none⟩) x9_3.length co39) y121 := (by rw [hw, Ny121.out]; exact HP40.1); clear HP40; replace HO_9 := Aside0.mk (hp_); replace HO_10 := Aside0.mk (Kd.R_after (v := (.slice (some ⟨go35, 0, none⟩) x9_3.length co39)) (v1 := (.slice (some ⟨go35, 0, none⟩) x9_3.length co39)) (ok := (fun _ => True)) pla2_3 hg (.inl rfl)); replace HB := Aside0.mk ((by rw [hw]; exact below_set (HB.out) GB35.out : Below w.heap.size w w41)); clear hg hw hp_; have p37 : 0 ≤ (x17_4 : Int) := of_decide_eq_true pbb2_4; have q37 : (x17_4 : Int) < ((x10_3.length : Int) : Int) := of_decide_eq_true pbb2_4; obtain ⟨go37, co37, eo37, gb37, gl37, cl37, HG37⟩ := Kd.R_form HO_10.out (by omega); (first | cases eo37 | (injection eo37 with ea_ en_ ec_; (first | subst ea_ | (injection ea_ with ea_; subst ea_)); subst ec_; clear en_)); have GB37 := Aside0.mk gb37; have GG37 := Aside0.mk HG37; clear gb37 gl37 HG37; obtain ⟨hx37_0, hf37_0⟩ := Kd.R_celln 0 HO_10.out (x17_4 : Int) p37 q37; replace p37 := eq_true p37; replace q37 := eq_true q37; have n_ := Aside0.mk (Kd.R_mono (ok' := (fun k_ => some k_ ≠ (.slice (some ⟨go35, 0, none⟩) x9_3.length co39 : Value).ownBlock)) HO_10.out (fun k_ hk => hk.2)); clear HO_10; have HO_10 := n_; clear n_; obtain ⟨hy42_, hz42_⟩ := Kd.R_celln 0 HO_10.out (x17_4 : Int) (of_decide_eq_true pbb2_4) (of_decide_eq_true pbb2_4); have HP42 := Kd.R_putg HO_10.out (x17_4 : Int) (-1)) | ((with_reducible refine gate_store (t := 3) (p := 109) rfl ?_); (try (rw [drewN_self w41]; generalize hq_ : World.drewN w41 _ = w41; have n0_ := Aside0.mk (Kd.R_at hq_ HO_9.out); have n1_ := Aside0.mk (Kd.R_at hq_ HO_10.out); have n2_ := Aside0.mk (below_at hq_ HB.out); clear hq_ HO_9 HO_10 HB; have HO_9 := n0_; have HO_10 := n1_; have HB := n2_; clear n0_ n1_ n2_; (try (have n_ := Aside0.mk (Kd.R_mono (ok' := (fun k_ => some k_ ≠ (.slice (some ⟨go35, 0, none⟩) x9_3.length co39 : Value).ownBlock)) HO_10.out (fun k_ hk => hk.2)); clear HO_10; have HO_10 := n_; clear n_)); (try (obtain ⟨hy42_, hz42_⟩ := Kd.R_celln 0 HO_10.out (x17_4 : Int) (of_decide_eq_true pbb2_4) (of_decide_eq_true pbb2_4))); (try (have HP42 := Kd.R_putg HO_10.out (x17_4 : Int) (-1))))); refine store_event (t := 3) (p := 109) (v := ?vo_w43) (w1 := (w41.setCell ⟨go37, (x17_4 : Int).toNat, none⟩ (.int .i64 (-1)))) ?hg ?ho ?hn ?hr ?_; (case ho => rfl); (case hg => rfl); (case hn => rfl); (case hr => first | (go_simp; done) | (go_simp; rfl)); intro w43 hw; have hg : w41.grownBy w43 (some go37) := (by rw [hw]; exact HP42.2); have hp_ : Kd.R (Kd.int .i64) 3 w43 w.heap.size (fun k_ => some k_ ≠ (.slice (some ⟨go35, 0, none⟩) x9_3.length co39 : Value).ownBlock) (.slice (some ⟨go37, 0, none⟩) x10_3.length co38) y122 := (by rw [hw, Ny122.out]; exact HP42.1); clear HP42; replace HO_9 := Aside0.mk (Kd.R_after (v := (.slice (some ⟨go37, 0, none⟩) x10_3.length co38)) (v1 := (.slice (some ⟨go37, 0, none⟩) x10_3.length co38)) (ok := (fun _ => True)) pla2_4 hg (.inl rfl)); replace HO_10 := Aside0.mk (hp_); replace HB := Aside0.mk ((by rw [hw]; exact below_set (HB.out) GB37.out : Below w.heap.size w w43)); clear hg hw hp_)))
                  go_roundg k4
                  case measure => have := HJ4.out; have := HK2.out; have := HK3.out; have := HK4.out; omega
                  case rel => exact ⟨(y121), (y122), (wrap64 (x11_3 - 1)), pbb2_0, H', ⟨pla2_6⟩, ⟨by (with_reducible repeat (first | apply Kd.R_alloc | apply Kd.R_drewN | apply Kd.R_drew)); exact Kd.R_mono HO_9.out (fun _ hk => hk.2)⟩, ⟨pbb7_9⟩, ⟨pbb2_3⟩⟩
                 ·rw [if_neg c36] at H; exact absurd H (by simp)
                ·rw [if_neg c34] at H; exact absurd H (by simp)
               ·rw [if_neg c33] at H; exact absurd H (by simp)
           ·rw [if_neg c25] at H; have c25b0 : decide (0 < x11_3) = false := decide_eq_false c25; clear c25; have H' := Aside0.mk H; clear H
            go_wp2
            repeat (go_quiet (fail); try go_wp2)
            go_loopg [19] k3 (fun kq v19 w' => ∃ (x9_4 : List Int) (x19_4 : Int), v19 = .int .i64 x19_4 ∧ Aside0 (F46.l3 kq a0 x9_4 x19_4 = some (r1, r2)) ∧ Aside0 (kq ≤ k3) ∧ Aside0 (Kd.R (Kd.int .i64) 3 w' w.heap.size (fun _ => True) v104 x9_4) ∧ Aside0 (Below w.heap.size w w'))
            case atStart => exact ⟨(x9_3), (0), pbb2_0, H', ⟨Nat.le_refl _⟩, ⟨by (with_reducible repeat (first | apply Kd.R_alloc | apply Kd.R_drewN | apply Kd.R_drew)); exact Kd.R_mono HO_9.out (fun _ hk => trivial)⟩, ⟨pbb2_3⟩⟩
            case round =>
             clear H'; (try clear hf2); (try clear hf3); (try clear hf18); (try clear hf20); (try clear hf35); (try clear hf37); obtain ⟨x9_4, x19_4, rfl, HA, HK4, HO_9, HB⟩ := hrel
             cases gk with
             | zero => exact absurd HA.out (by simp [F46.l3])
             | succ k4 =>
              have H := HA.out; clear HA; simp only [F46.l3] at H
              by_cases c44 : x19_4 < (x9_4.length : Int)
              ·rw [if_pos c44] at H; have c44b0 := decide_eq_true c44; clear c44
               by_cases c45 : a0 < 0
               ·rw [if_pos c45] at H; have c45b0 := decide_eq_true c45; clear c45
                by_cases c46 : 0 ≤ x19_4
                ·rw [if_pos c46] at H; have c46b0 := decide_eq_true c46; clear c46; obtain ⟨y124, hy124⟩ : ∃ y_ : List Int, y_ = (x9_4.set (x19_4 : Int).toNat (wrap64 (-(rd x9_4 x19_4)))) := ⟨_, rfl⟩; replace H : (F46.l3 k4 a0 y124 (wrap64 (x19_4 + 1))) = some (r1, r2) := by first | (rw [hy124]; with_reducible exact H) | (have H2_ := (Option.bind_some _ _).symm.trans H; rw [hy124]; with_reducible exact H2_) | (have H2_ := (Option.bind_some _ _).symm.trans H; with_reducible exact H2_) | with_reducible exact H | (rw [hy124]; exact H) | exact H
                 have Ny124 := Aside0.mk hy124; clear hy124; have H' := Aside0.mk H; clear H; obtain ⟨Ao48, co48, eo48⟩ := Kd.R_slice HO_9.out; subst eo48; have p123 : 0 ≤ (x19_4 : Int) := of_decide_eq_true pbb2_4; have q123 : x19_4 < (x9_4.length : Int) := of_decide_eq_true pbb2_4; obtain ⟨ad123, e123, hx123_0⟩ := Kd.at_int (Kd.R_reads' HO_9.out).2.2 x19_4 p123 q123
                 cases e123
                 replace p123 := eq_true p123; replace q123 := eq_true q123; have p47 : 0 ≤ (x19_4 : Int) := of_decide_eq_true pbb2_4; have q47 : (x19_4 : Int) < ((x9_4.length : Int) : Int) := of_decide_eq_true pbb2_4; obtain ⟨go47, co47, eo47, gb47, gl47, cl47, HG47⟩ := Kd.R_form HO_9.out (by omega); (first | cases eo47 | (injection eo47 with ea_ en_ ec_; (first | subst ea_ | (injection ea_ with ea_; subst ea_)); subst ec_; clear en_)); have GB47 := Aside0.mk gb47; have GG47 := Aside0.mk HG47; clear gb47 gl47 HG47; (first | simp only [add_plain] at hx123_0 | skip); obtain ⟨hx47_0, hf47_0⟩ := Kd.R_celln 0 HO_9.out (x19_4 : Int) p47 q47; replace p47 := eq_true p47; replace q47 := eq_true q47; have HP49 := Kd.R_putg HO_9.out (x19_4 : Int) (wrap64 (-(rd x9_4 x19_4)))
                 go_wp2_with (first | ((with_reducible refine gate_store (t := 3) (p := 129) rfl ?_); (try (rw [drewN_self wr]; generalize hq_ : World.drewN wr _ = wr; have n0_ := Aside0.mk (Kd.R_at hq_ HO_9.out); have n1_ := Aside0.mk (below_at hq_ HB.out); clear hq_ HO_9 HB; have HO_9 := n0_; have HB := n1_; clear n0_ n1_; (try (have HP49 := Kd.R_putg HO_9.out (x19_4 : Int) (wrap64 (-(rd x9_4 x19_4))))))); refine store_event (t := 3) (p := 129) (v := ?vo_w50) (w1 := (wr.setCell ⟨go47, (x19_4 : Int).toNat, none⟩ (.int .i64 (wrap64 (-(rd x9_4 x19_4)))))) ?hg ?ho ?hn ?hr ?_; (case ho => rfl); (case hg => rfl); (case hn => rfl); (case hr => first | (go_simp; done) | (go_simp; rfl)); intro w50 hw; have hg : wr.grownBy w50 (some go47) := (by rw [hw]; exact HP49.2); have hp_ : Kd.R (Kd.int .i64) 3 w50 w.heap.size (fun _ => True) (.slice (some ⟨go47, 0, none⟩) x9_4.length co48) y124 := (by rw [hw, Ny124.out]; exact HP49.1); clear HP49; replace HO_9 := Aside0.mk (hp_); replace HB := Aside0.mk ((by rw [hw]; exact below_set (HB.out) GB47.out : Below w.heap.size w w50)); clear hg hw hp_))
                 repeat (go_quiet (first | ((with_reducible refine gate_store (t := 3) (p := 129) rfl ?_); (try (rw [drewN_self wr]; generalize hq_ : World.drewN wr _ = wr; have n0_ := Aside0.mk (Kd.R_at hq_ HO_9.out); have n1_ := Aside0.mk (below_at hq_ HB.out); clear hq_ HO_9 HB; have HO_9 := n0_; have HB := n1_; clear n0_ n1_; (try (have HP49 := Kd.R_putg HO_9.out (x19_4 : Int) (wrap64 (-(rd x9_4 x19_4))))))); refine store_event (t := 3) (p := 129) (v := ?vo_w50) (w1 := (wr.setCell ⟨go47, (x19_4 : Int).toNat, none⟩ (.int .i64 (wrap64 (-(rd x9_4 x19_4)))))) ?hg ?ho ?hn ?hr ?_; (case ho => rfl); (case hg => rfl); (case hn => rfl); (case hr => first | (go_simp; done) | (go_simp; rfl)); intro w50 hw; have hg : wr.grownBy w50 (some go47) := (by rw [hw]; exact HP49.2); have hp_ : Kd.R (Kd.int .i64) 3 w50 w.heap.size (fun _ => True) (.slice (some ⟨go47, 0, none⟩) x9_4.length co48) y124 := (by rw [hw, Ny124.out]; exact HP49.1); clear HP49; replace HO_9 := Aside0.mk (hp_); replace HB := Aside0.mk ((by rw [hw]; exact below_set (HB.out) GB47.out : Below w.heap.size w w50)); clear hg hw hp_)); try go_wp2_with (first | ((with_reducible refine gate_store (t := 3) (p := 129) rfl ?_); (try (rw [drewN_self wr]; generalize hq_ : World.drewN wr _ = wr; have n0_ := Aside0.mk (Kd.R_at hq_ HO_9.out); have n1_ := Aside0.mk (below_at hq_ HB.out); clear hq_ HO_9 HB; have HO_9 := n0_; have HB := n1_; clear n0_ n1_; (try (have HP49 := Kd.R_putg HO_9.out (x19_4 : Int) (wrap64 (-(rd x9_4 x19_4))))))); refine store_event (t := 3) (p := 129) (v := ?vo_w50) (w1 := (wr.setCell ⟨go47, (x19_4 : Int).toNat, none⟩ (.int .i64 (wrap64 (-(rd x9_4 x19_4)))))) ?hg ?ho ?hn ?hr ?_; (case ho => rfl); (case hg => rfl); (case hn => rfl); (case hr => first | (go_simp; done) | (go_simp; rfl)); intro w50 hw; have hg : wr.grownBy w50 (some go47) := (by rw [hw]; exact HP49.2); have hp_ : Kd.R (Kd.int .i64) 3 w50 w.heap.size (fun _ => True) (.slice (some ⟨go47, 0, none⟩) x9_4.length co48) y124 := (by rw [hw, Ny124.out]; exact HP49.1); clear HP49; replace HO_9 := Aside0.mk (hp_); replace HB := Aside0.mk ((by rw [hw]; exact below_set (HB.out) GB47.out : Below w.heap.size w w50)); clear hg hw hp_)))
                 go_roundg k4
                 case measure => have := HJ4.out; have := HK2.out; have := HK3.out; have := HK4.out; omega
                 case rel => exact ⟨(y124), (wrap64 (x19_4 + 1)), pbb2_0, H', ⟨pla2_6⟩, ⟨pla2_5⟩, ⟨pbb2_3⟩⟩
                ·rw [if_neg c46] at H; exact absurd H (by simp)
               ·rw [if_neg c45] at H; have c45b0 := decide_eq_false c45; clear c45; simp only [Option.some.injEq, Prod.mk.injEq] at H; obtain ⟨rfl, rfl⟩ := H; obtain ⟨Ao51, co51, eo51⟩ := Kd.R_slice HO_9.out; subst eo51
                go_wp2
                repeat (go_quiet (fail); try go_wp2)
                go_ret2
                exact ⟨_, pbb2_5, pla2_5, pbb2_3⟩
              ·rw [if_neg c44] at H; have c44b0 := decide_eq_false c44; clear c44; simp only [Option.some.injEq, Prod.mk.injEq] at H; obtain ⟨rfl, rfl⟩ := H; obtain ⟨Ao52, co52, eo52⟩ := Kd.R_slice HO_9.out; subst eo52
               go_wp2
               repeat (go_quiet (fail); try go_wp2)
               go_ret2
               exact ⟨_, pbb2_5, pla2_5, pbb2_3⟩
     ·rw [if_neg c8] at H; exact absurd H (by simp)
    ·rw [if_neg c7] at H; exact absurd H (by simp)
 ·rw [if_neg c4] at H; have c4b0 := nF_ c4; have c4b1 := nT_ c4; simp only [Option.some.injEq, Prod.mk.injEq] at H; obtain ⟨rfl, rfl⟩ := H; go_enter Tryd.func46, Tryd.ntmps46
  go_wp2_with (first | (go_at_call 58; (with_reducible refine (F58.calls k a0 _ _ l1 t101 t102 _ pla2_1 HC1.out A3.out).mono ?_); rintro e w' ⟨rfl, ⟨nd, rfl⟩⟩; (try first | exact ⟨rfl, _, World.drewN_drewN _ _ _⟩ | exact ⟨rfl, _, Eq.trans (World.drewN_drewN _ _ _) (congrArg (World.drewN _) (Nat.add_assoc _ _ _))⟩)))
  repeat (go_quiet (first | (go_at_call 58; (with_reducible refine (F58.calls k a0 _ _ l1 t101 t102 _ pla2_1 HC1.out A3.out).mono ?_); rintro e w' ⟨rfl, ⟨nd, rfl⟩⟩; (try first | exact ⟨rfl, _, World.drewN_drewN _ _ _⟩ | exact ⟨rfl, _, Eq.trans (World.drewN_drewN _ _ _) (congrArg (World.drewN _) (Nat.add_assoc _ _ _))⟩))); try go_wp2_with (first | (go_at_call 58; (with_reducible refine (F58.calls k a0 _ _ l1 t101 t102 _ pla2_1 HC1.out A3.out).mono ?_); rintro e w' ⟨rfl, ⟨nd, rfl⟩⟩; (try first | exact ⟨rfl, _, World.drewN_drewN _ _ _⟩ | exact ⟨rfl, _, Eq.trans (World.drewN_drewN _ _ _) (congrArg (World.drewN _) (Nat.add_assoc _ _ _))⟩))))
  go_ret2
  exact ⟨_, pbb2_5, pbb3_0, pbb2_3⟩
end Go.Proofs.YtegpappenmhndaaDoor.M
end
