/- The law of the entries, walked and shown. Part 1 of 2 of what is the claim's own. -/
import Derived.Test.YtjeecehhcajfaaaDoorQBB2
import Derived.Laws.Cover1
import Derived.Test.YtjeecehhcajfaaaDoorQBB5
import Derived.Test.YtjeecehhcajfaaaDoorQBB3
import Derived.Test.YtjeecehhcajfaaaDoorQBB6
namespace Go.Proofs.YtjeecehhcajfaaaDoor.M
theorem pre1_0 {p : Prop} (h : p := by have := HJ1.out; first | omega | exact Nat.le_refl _) : p := h
theorem pre1_1 {p : Prop} (h : p := by repeat (first | exact (Kd.C_below HR0.out HB.out) | (with_reducible refine Kd.C_alloc ?_ _) | (with_reducible refine Kd.C_drewN ?_ _) | (with_reducible refine Kd.C_drew ?_))) : p := h
theorem pre1_2 {p : Prop} (h : p := by (with_reducible repeat (first | apply Kd.R_alloc | apply Kd.R_drewN | apply Kd.R_drew)); exact HO_3.out) : p := h
end Go.Proofs.YtjeecehhcajfaaaDoor.M
section
namespace Go.Proofs.YtjeecehhcajfaaaDoor.M
open Go.RowKit Go.Proofs.YtjeecehhcajfaaaDoorW.PrintWords Go.Proofs.YtjeecehhcajfaaaDoorW.PrintLast Go.Proofs.YtjeecehhcajfaaaDoorW.PrintMore
attribute [local go_sem] max2_int min2_int max_two min_two max_three min_three max_four min_four
set_option linter.unusedVariables false
set_option linter.unusedSimpArgs false
def F39.f (k : Nat) (a0 : ByteArray) : Option (Bool) := if a0.toList = ([] : List UInt8) then (some true) else ((F38.f k a0).bind fun t101 => (some t101))
set_option maxHeartbeats 8000000 in
set_option maxRecDepth 100000 in
theorem F39.calls (k : Nat) (a0 : ByteArray) (r : Bool) (w : World) (h : F39.f k a0 = some r) :
    Calls Tryd.prog 39 #[.string a0] w fun e w' => e = .returned (.bool r) ∧ Drawn0 w w' := by
 unfold F39.f at h
 have H := h; clear h
 by_cases c2 : a0.toList = ([] : List UInt8)
 ·rw [if_pos c2] at H; have c2b0 := bT_ c2; have c2b1 := bF_ c2; clear c2; obtain rfl := Option.some.inj H; go_enter Tryd.func39, Tryd.ntmps39
  go_wp2
  go_ret
  exact ⟨pbb2_3, pbb2_4⟩
 ·rw [if_neg c2] at H; have c2b0 := nF_ c2; have c2b1 := nT_ c2; obtain ⟨t101, A30, H⟩ := bnd H; have A3 := Aside0.mk A30; clear A30; obtain rfl := Option.some.inj H; go_enter Tryd.func39, Tryd.ntmps39
  go_wp2_with (first | (go_at_call 38; (with_reducible refine (F38.calls k a0 t101 _ A3.out).mono ?_); rintro e w' ⟨rfl, ⟨nd, rfl⟩⟩))
  go_ret
  exact ⟨pbb2_3, pbb2_4⟩
def F40.l0 : Nat → ByteArray → Int → Option (Bool)
  | 0, _, _ => none
  | k + 1, x0, x3 => if x3 < 3 then (if 0 ≤ x3 then (if x3 < (x0.size : Int) then (if (bt x0 x3) < 65 then (some false) else (if (bt x0 x3) > 90 then (some false) else (F40.l0 k x0 (wrap64 (x3 + 1))))) else (none)) else (none)) else (some true)
def F40.f (k : Nat) (a0 : ByteArray) : Option (Bool) := if (a0.size : Int) = 3 then (F40.l0 k a0 0) else (some false)
set_option maxHeartbeats 8000000 in
set_option maxRecDepth 100000 in
theorem F40.calls (k : Nat) (a0 : ByteArray) (r : Bool) (w : World) (h : F40.f k a0 = some r) :
    Calls Tryd.prog 40 #[.string a0] w fun e w' => e = .returned (.bool r) ∧ Drawn0 w w' := by
 unfold F40.f at h
 have H := h; clear h
 by_cases c2 : (a0.size : Int) = 3
 ·rw [if_pos c2] at H; have c2b0 := bT_ c2; have c2b1 := bF_ c2; clear c2; have H' := Aside0.mk H; clear H; go_enter Tryd.func40, Tryd.ntmps40
  go_wp2
  go_loopg [3] k (fun kq v3 w' => ∃ (x3_1 : Int), v3 = .int .i64 x3_1 ∧ Aside0 (F40.l0 kq a0 x3_1 = some r) ∧ Aside0 (kq ≤ k) ∧ Drawn0 w w')
  case atStart => exact ⟨(0), pbb2_3, H', ⟨Nat.le_refl _⟩, pbb2_4⟩
  case round =>
   clear H'; obtain ⟨x3_1, rfl, HA, HK1, ⟨m1, rfl⟩⟩ := hrel
   cases gk with
   | zero => exact absurd HA.out (by simp [F40.l0])
   | succ k1 =>
    have H := HA.out; clear HA; simp only [F40.l0] at H
    by_cases c3 : x3_1 < 3
    ·rw [if_pos c3] at H; have c3b0 := decide_eq_true c3; clear c3
     by_cases c4 : 0 ≤ x3_1
     ·rw [if_pos c4] at H; have c4b0 := decide_eq_true c4; clear c4
      by_cases c5 : x3_1 < (a0.size : Int)
      ·rw [if_pos c5] at H; have c5b0 := decide_eq_true c5; clear c5
       by_cases c7 : (bt a0 x3_1) < 65
       ·rw [if_pos c7] at H; have c7b0 := decide_eq_true c7; clear c7; obtain rfl := Option.some.inj H; have p6 : 0 ≤ (x3_1 : Int) := of_decide_eq_true pbb2_6; have q6 : x3_1 < (a0.size : Int) := of_decide_eq_true pbb2_6; have hx6 := bt_at a0 x3_1; replace p6 := eq_true p6; replace q6 := eq_true q6
        go_wp2
        go_ret
        exact ⟨pbb2_3, pbb2_4⟩
       ·rw [if_neg c7] at H; have c7b0 := decide_eq_false c7; clear c7
        by_cases c9 : (bt a0 x3_1) > 90
        ·rw [if_pos c9] at H; have c9b0 : decide (90 < (bt a0 x3_1)) = true := decide_eq_true c9; clear c9; obtain rfl := Option.some.inj H; have p6 : 0 ≤ (x3_1 : Int) := of_decide_eq_true pbb2_6; have q6 : x3_1 < (a0.size : Int) := of_decide_eq_true pbb2_6; have hx6 := bt_at a0 x3_1; replace p6 := eq_true p6; replace q6 := eq_true q6; have p8 : 0 ≤ (x3_1 : Int) := of_decide_eq_true pbb2_6; have q8 : x3_1 < (a0.size : Int) := of_decide_eq_true pbb2_6; have hx8 := bt_at a0 x3_1; replace p8 := eq_true p8; replace q8 := eq_true q8
         go_wp2
         go_ret
         exact ⟨pbb2_3, pbb2_4⟩
        ·rw [if_neg c9] at H; have c9b0 : decide (90 < (bt a0 x3_1)) = false := decide_eq_false c9; clear c9; have H' := Aside0.mk H; clear H; have p6 : 0 ≤ (x3_1 : Int) := of_decide_eq_true pbb2_6; have q6 : x3_1 < (a0.size : Int) := of_decide_eq_true pbb2_6; have hx6 := bt_at a0 x3_1; replace p6 := eq_true p6; replace q6 := eq_true q6; have p8 : 0 ≤ (x3_1 : Int) := of_decide_eq_true pbb2_6; have q8 : x3_1 < (a0.size : Int) := of_decide_eq_true pbb2_6; have hx8 := bt_at a0 x3_1; replace p8 := eq_true p8; replace q8 := eq_true q8
         go_wp2
         go_roundg k1
         case measure => have := HK1.out; omega
         case rel => exact ⟨(wrap64 (x3_1 + 1)), pbb2_3, H', ⟨pbb2_7⟩, pbb2_4⟩
      ·rw [if_neg c5] at H; exact absurd H (by simp)
     ·rw [if_neg c4] at H; exact absurd H (by simp)
    ·rw [if_neg c3] at H; have c3b0 := decide_eq_false c3; clear c3; obtain rfl := Option.some.inj H
     go_wp2
     go_ret
     exact ⟨pbb2_3, pbb2_4⟩
 ·rw [if_neg c2] at H; have c2b0 := nF_ c2; have c2b1 := nT_ c2; obtain rfl := Option.some.inj H; go_enter Tryd.func40, Tryd.ntmps40
  go_wp2
  go_ret
  exact ⟨pbb2_3, pbb2_4⟩
def F41.f (a0 : Int) (a1 : Int) : Option (Bool) := if a0 ≥ (wrap64 (-a1)) then (some (decide (a0 ≤ a1))) else (some false)
set_option maxHeartbeats 8000000 in
set_option maxRecDepth 100000 in
theorem F41.calls (a0 : Int) (a1 : Int) (r : Bool) (w : World) (h : F41.f a0 a1 = some r) :
    Calls Tryd.prog 41 #[.int .i64 a0, .int .i64 a1] w fun e w' => e = .returned (.bool r) ∧ Drawn0 w w' := by
 unfold F41.f at h
 have H := h; clear h
 by_cases c3 : a0 ≥ (wrap64 (-a1))
 ·rw [if_pos c3] at H; have c3b0 : decide ((wrap64 (-a1)) ≤ a0) = true := decide_eq_true c3; clear c3; obtain rfl := Option.some.inj H; go_enter Tryd.func41, Tryd.ntmps41
  go_wp2
  go_ret
  exact ⟨pbb2_3, pbb2_4⟩
 ·rw [if_neg c3] at H; have c3b0 : decide ((wrap64 (-a1)) ≤ a0) = false := decide_eq_false c3; clear c3; obtain rfl := Option.some.inj H; go_enter Tryd.func41, Tryd.ntmps41
  go_wp2
  go_ret
  exact ⟨pbb2_3, pbb2_4⟩
def F69.f (k : Nat) (a0_0 : ByteArray) (a0_1 : ByteArray) : Option (Bool) := (F38.f k a0_0).bind fun t102 => (if t102 = true then ((F38.f k a0_1).bind fun t103 => (some t103)) else (some false))
set_option maxHeartbeats 8000000 in
set_option maxRecDepth 100000 in
theorem F69.calls (k : Nat) (a0_0 : ByteArray) (a0_1 : ByteArray) (r : Bool) (w : World) (h : F69.f k a0_0 a0_1 = some r) :
    Calls Tryd.prog 69 #[.agg #[.string a0_0, .string a0_1]] w fun e w' => e = .returned (.bool r) ∧ Below w.heap.size w w' := by
 have hu101 := Tryd.underlying101; have hu9 := Tryd.underlying9; have HB := Aside0.mk (Below.refl w.heap.size w)
 unfold F69.f at h
 have H := h; clear h; obtain ⟨t102, A20, H⟩ := bnd H; have A2 := Aside0.mk A20; clear A20
 by_cases c3 : t102 = true
 ·subst c3; rw [if_pos rfl] at H; obtain ⟨t103, A40, H⟩ := bnd H; have A4 := Aside0.mk A40; clear A40; obtain rfl := Option.some.inj H; go_enter Tryd.func69, Tryd.ntmps69
  go_wp2_with (first | ((with_reducible refine gate_dst (N := 1) rfl ?_); refine box_event ?hg (N := 1) ?hd (cs := #[.string a0_0, .string a0_1]) (t := 101) ?hr ?_; (case hd => rfl); (case hg => rfl); (case hr => first | (go_simp; done) | (go_simp; rfl)); intro gb101 hg w5 hbox hb; have BK101 := Aside0.mk (hbox); have GW101 := Aside0.mk ((pbb2_8 : w.heap.size ≤ gb101)); have GE101 := Aside0.mk ((pbb2_8 : w.heap.size ≤ gb101)); replace HB := Aside0.mk (below_step pbb2_9 hb); clear hb hbox hg; obtain ⟨hcz6_0, hcz6_1⟩ := cz2 BK101.out; obtain ⟨hfz6_0, hfz6_1⟩ := fz2 BK101.out) | ((with_reducible refine gate_callee (f := 38) rfl ?_); refine goesL_ (some 5) rfl rfl Tryd.func38 (by kernel_rfl) rfl #[.string a0_0] rfl pbb2_5 ?_; (with_reducible refine (F38.calls k a0_0 true _ A2.out).mono ?_); rintro e w' ⟨rfl, ⟨nd, rfl⟩⟩; refine ⟨_, rfl, ?_⟩) | (go_at_call 38; (with_reducible refine (F38.calls k a0_1 t103 _ A4.out).mono ?_); rintro e w' ⟨rfl, ⟨nd, rfl⟩⟩))
  go_ret
  exact ⟨pbb2_18, pbb2_11⟩
 ·replace c3 := Bool.eq_false_iff.mpr c3; subst c3; rw [if_neg (show ¬ (false = true) by decide)] at H; obtain rfl := Option.some.inj H; go_enter Tryd.func69, Tryd.ntmps69
  go_wp2_with (first | ((with_reducible refine gate_dst (N := 1) rfl ?_); refine box_event ?hg (N := 1) ?hd (cs := #[.string a0_0, .string a0_1]) (t := 101) ?hr ?_; (case hd => rfl); (case hg => rfl); (case hr => first | (go_simp; done) | (go_simp; rfl)); intro gb101 hg w7 hbox hb; have BK101 := Aside0.mk (hbox); have GW101 := Aside0.mk ((pbb2_8 : w.heap.size ≤ gb101)); have GE101 := Aside0.mk ((pbb2_8 : w.heap.size ≤ gb101)); replace HB := Aside0.mk (below_step pbb2_9 hb); clear hb hbox hg; obtain ⟨hcz8_0, hcz8_1⟩ := cz2 BK101.out; obtain ⟨hfz8_0, hfz8_1⟩ := fz2 BK101.out) | ((with_reducible refine gate_callee (f := 38) rfl ?_); refine goesL_ (some 5) rfl rfl Tryd.func38 (by kernel_rfl) rfl #[.string a0_0] rfl pbb2_5 ?_; (with_reducible refine (F38.calls k a0_0 false _ A2.out).mono ?_); rintro e w' ⟨rfl, ⟨nd, rfl⟩⟩; refine ⟨_, rfl, ?_⟩))
  go_ret
  exact ⟨pbb2_18, pbb2_11⟩
def F42.l0 : Nat → List (S101) → Int → Option (Bool)
  | 0, _, _ => none
  | k + 1, x0, x3 => if x3 < (x0.length : Int) then (if 0 ≤ x3 then ((F69.f k ((rd_T101 x0 x3).f0) ((rd_T101 x0 x3).f1)).bind fun t102 => (if t102 = true then (if x3 > 0 then (if 0 ≤ (wrap64 (x3 - 1)) then (if (wrap64 (x3 - 1)) < (x0.length : Int) then (if ((Op.bytesLess (((rd_T101 x0 (wrap64 (x3 - 1))).f0).toList) (((rd_T101 x0 x3).f0).toList)) = true) then (F42.l0 k x0 (wrap64 (x3 + 1))) else (some false)) else (none)) else (none)) else (F42.l0 k x0 (wrap64 (x3 + 1)))) else (some false))) else (none)) else (some (decide ((x0.length : Int) ≤ 6)))
def F42.f (k : Nat) (l0 : List (S101)) : Option (Bool) := F42.l0 k l0 0
def F42.T4 : Bool × List (List Nat × List Nat) := (true, [([], []), ([], []), ([0, 1], [0, 1]), ([2], [2]), ([3], [3]), ([4], [4]), ([5, 4], [5]), ([6], [6]), ([7, 6], [6, 7]), ([8, 6, 6], [6, 8]), ([9], [9]), ([9], [9]), ([10, 11, 9], [9, 10, 11]), ([12, 9], [9, 12]), ([13, 9], [9, 13]), ([9], [9]), ([9], [9]), ([16, 9], [9, 16]), ([15, 17, 9], [9, 15, 17]), ([18, 9], [9, 18]), ([19, 9], [9, 19]), ([14, 20, 9], [9, 14, 20]), ([9, 21, 6], [6, 9, 21]), ([6, 22], [6, 22])])
def F42.B4 : List Nat := [0, 0, 3, 7, 15, 31, 63, 127, 255, 511, 1023, 1023, 4095, 8191, 16383, 1023, 1023, 66559, 230399, 492543, 1016831, 2097151, 4194303, 8388607]
theorem F42.tab4 : rtab .any (opsOf Tryd.f42 4) = F42.T4 := by kernel_rfl
theorem F42.bits4 : waitsOk F42.T4.2 F42.B4 = true := by kernel_rfl
set_option maxHeartbeats 8000000 in
set_option maxRecDepth 100000 in
theorem F42.calls (k : Nat) (A0 : Option Addr) (c0 : Nat) (l0 : List (S101)) (r : Bool) (w : World) (hr0 : Kd.C k101 w A0 l0.length l0) (hc0 : l0.length ≤ c0) (h : F42.f k l0 = some r) :
    Calls Tryd.prog 42 #[.slice A0 l0.length c0] w fun e w' => e = .returned (.bool r) ∧ Below w.heap.size w w' := by
 have hu101 := Tryd.underlying101; have hu9 := Tryd.underlying9; have HR0 := Aside0.mk hr0; have HC0 := Aside0.mk hc0; clear hr0 hc0; have HB := Aside0.mk (Below.refl w.heap.size w)
 unfold F42.f at h
 have H := h; clear h; have H' := Aside0.mk H; clear H; go_enter Tryd.func42, Tryd.ntmps42
 go_wp2
 go_loopg [3] k (fun kq v3 w' => ∃ (x3_1 : Int), v3 = .int .i64 x3_1 ∧ Aside0 (F42.l0 kq l0 x3_1 = some r) ∧ Aside0 (kq ≤ k) ∧ Aside0 (Below w.heap.size w w'))
 case atStart => exact ⟨(0), pbb2_3, H', ⟨Nat.le_refl _⟩, ⟨pbb2_9⟩⟩
 case round =>
  clear H'; obtain ⟨x3_1, rfl, HA, HK1, HB⟩ := hrel
  cases gk with
  | zero => exact absurd HA.out (by simp [F42.l0])
  | succ k1 =>
   have H := HA.out; clear HA; simp only [F42.l0] at H
   by_cases c2 : x3_1 < (l0.length : Int)
   ·rw [if_pos c2] at H; have c2b0 := decide_eq_true c2; clear c2
    by_cases c3 : 0 ≤ x3_1
    ·rw [if_pos c3] at H; have c3b0 := decide_eq_true c3; clear c3; obtain ⟨t102, A40, H⟩ := bnd H; have A4 := Aside0.mk A40; clear A40
     by_cases c5 : t102 = true
     ·subst c5; rw [if_pos rfl] at H
      by_cases c6 : x3_1 > 0
      ·rw [if_pos c6] at H; have c6b0 : decide (0 < x3_1) = true := decide_eq_true c6; clear c6; obtain ⟨ji7, hji7⟩ : ∃ j_ : Int, (wrap64 (x3_1 - 1)) = j_ := ⟨_, rfl⟩; (first | rw [hji7] at H | simp only [hji7] at H); (try rw [hji7] at A4); have hji7w : (IntKind.i64.wrap (x3_1 - 1)) = ji7 := (i64_w _).trans hji7
       by_cases c8 : 0 ≤ (ji7)
       ·rw [if_pos c8] at H; have c8b0 := decide_eq_true c8; clear c8
        by_cases c9 : (ji7) < (l0.length : Int)
        ·rw [if_pos c9] at H; have c9b0 := decide_eq_true c9; clear c9
         by_cases c10 : ((Op.bytesLess (((rd_T101 l0 (ji7)).f0).toList) (((rd_T101 l0 x3_1).f0).toList)) = true)
         ·rw [if_pos c10] at H; have c10b0 : (Op.bytesLess (((rd_T101 l0 (ji7)).f0).toList) (((rd_T101 l0 x3_1).f0).toList)) = true := c10; have c10z : (Op.bytesLess (((rd_T101 l0 x3_1).f0).toList) (((rd_T101 l0 (ji7)).f0).toList) || (((rd_T101 l0 x3_1).f0).toList) == (((rd_T101 l0 (ji7)).f0).toList)) = false := by rw [bytesLess_or, c10b0]; rfl
          clear c10; have H' := Aside0.mk H; clear H; (try go_wp2); replace HB := Aside0.mk (below_drew1 HB.out); have p101 : 0 ≤ (x3_1 : Int) := of_decide_eq_true pbb2_6; have q101 : x3_1 < (l0.length : Int) := of_decide_eq_true pbb2_6; obtain ⟨ad101, e101, hx101_0, hx101_1⟩ := at_T101 HR0.out x3_1 p101 q101; have hw101_1 := hx101_1; have hw101_0 := hx101_0
          cases e101
          replace hx101_0 := (HB.out.cell (World.block_lt_of_cell? w _ hx101_0)).trans hx101_0; replace hx101_1 := (HB.out.cell (World.block_lt_of_cell? w _ hx101_1)).trans hx101_1; replace p101 := eq_true p101; replace q101 := eq_true q101; have p103 : 0 ≤ (x3_1 : Int) := of_decide_eq_true pbb2_6; have q103 : x3_1 < (l0.length : Int) := of_decide_eq_true pbb2_6; obtain ⟨ad103, e103, hx103_0, hx103_1⟩ := at_T101 HR0.out x3_1 p103 q103; have hw103_1 := hx103_1; have hw103_0 := hx103_0; obtain rfl : ad101 = ad103 := (by injection e103); replace hx103_0 := (HB.out.cell (World.block_lt_of_cell? w _ hx103_0)).trans hx103_0; replace hx103_1 := (HB.out.cell (World.block_lt_of_cell? w _ hx103_1)).trans hx103_1; replace p103 := eq_true p103; replace q103 := eq_true q103; have p104 : 0 ≤ ((ji7) : Int) := of_decide_eq_true pbb2_6; have q104 : (ji7) < (l0.length : Int) := of_decide_eq_true pbb2_6; obtain ⟨ad104, e104, hx104_0, hx104_1⟩ := at_T101 HR0.out (ji7) p104 q104; have hw104_1 := hx104_1; have hw104_0 := hx104_0; obtain rfl : ad101 = ad104 := (by injection e104); replace hx104_0 := (HB.out.cell (World.block_lt_of_cell? w _ hx104_0)).trans hx104_0; replace hx104_1 := (HB.out.cell (World.block_lt_of_cell? w _ hx104_1)).trans hx104_1; replace p104 := eq_true p104; replace q104 := eq_true q104; refine start_ (n := 24) (S := fun w' => w'.cell? (ad101.add ((x3_1).toNat * 2)) = some (.string ((rd_T101 l0 x3_1).f0)) ∧ w'.cell? ⟨(ad101.add ((x3_1).toNat * 2)).block, (ad101.add ((x3_1).toNat * 2)).off + 1, none⟩ = some (.string ((rd_T101 l0 x3_1).f1)) ∧ w'.cell? (ad101.add ((x3_1).toNat * 2)) = some (.string ((rd_T101 l0 x3_1).f0)) ∧ w'.cell? ⟨(ad101.add ((x3_1).toNat * 2)).block, (ad101.add ((x3_1).toNat * 2)).off + 1, none⟩ = some (.string ((rd_T101 l0 x3_1).f1)) ∧ w'.cell? (ad101.add (((ji7)).toNat * 2)) = some (.string ((rd_T101 l0 (ji7)).f0)) ∧ w'.cell? ⟨(ad101.add (((ji7)).toNat * 2)).block, (ad101.add (((ji7)).toNat * 2)).off + 1, none⟩ = some (.string ((rd_T101 l0 (ji7)).f1))) (ds := []) (bq 24 0) (by kernel_rfl) rfl rfl ⟨((HB.out.cell (World.block_lt_of_cell? w _ hw101_0)).trans hw101_0), ((HB.out.cell (World.block_lt_of_cell? w _ hw101_1)).trans hw101_1), ((HB.out.cell (World.block_lt_of_cell? w _ hw103_0)).trans hw103_0), ((HB.out.cell (World.block_lt_of_cell? w _ hw103_1)).trans hw103_1), ((HB.out.cell (World.block_lt_of_cell? w _ hw104_0)).trans hw104_0), ((HB.out.cell (World.block_lt_of_cell? w _ hw104_1)).trans hw104_1)⟩ (fun hHeld => ?_); refine with_tabW F42.tab4 F42.bits4 (fun HT_ HW_ => ?_); generalize wr.drew = w11 at HB hx101_0 hx101_1 hx103_0 hx103_1 hx104_0 hx104_1 hHeld ⊢; refine pv_ 0 10 (bq 24 1) HT_ ?_; refine pv_ 1 11 (bq 24 3) HT_ ?_; refine pv_ 2 12 (bq 24 7) HT_ ?_; refine take_ (i := 3) (N := some 13) (v := ?_) (a' := ?_) (bq 24 15) rfl rfl (take_ofW HT_.out HW_.out (by kernel_rfl)) (fun _ _ _ h => h) (Or.inl ⟨by rfl, ?_⟩) hHeld ?_ ?_; rotate_left
          ·rintro w' ⟨s0, s1, s2, s3, s4, s5⟩; go_simp; (with_reducible rfl)
          rotate_left
          ·exact cbb2_0
          refine one_ (i := 4) (N := some 14) (bq 24 31) rfl rfl (one_of HT_.out (by kernel_rfl)) (by decide) (fun K hK => ?_); refine goes_ Tryd.func69 (by kernel_rfl) rfl #[.agg #[.string ((rd_T101 l0 x3_1).f0), .string ((rd_T101 l0 x3_1).f1)]] (by rfl) rfl rfl pbb2_5 ?_; (with_reducible refine (F69.calls k1 ((rd_T101 l0 x3_1).f0) ((rd_T101 l0 x3_1).f1) true _ A4.out).mono ?_); rintro e w12 ⟨rfl, hb⟩; refine ⟨_, rfl, ?_⟩; replace HB := Aside0.mk (below_step pbb2_9 hb); (try clear hb); (try clear hb2); (try clear hk); (try clear hi); refine hK.out _ _ ⟨((HB.out.cell (World.block_lt_of_cell? w _ hw101_0)).trans hw101_0), ((HB.out.cell (World.block_lt_of_cell? w _ hw101_1)).trans hw101_1), ((HB.out.cell (World.block_lt_of_cell? w _ hw103_0)).trans hw103_0), ((HB.out.cell (World.block_lt_of_cell? w _ hw103_1)).trans hw103_1), ((HB.out.cell (World.block_lt_of_cell? w _ hw104_0)).trans hw104_0), ((HB.out.cell (World.block_lt_of_cell? w _ hw104_1)).trans hw104_1)⟩ (fun hHeld => ?_); clear hK K; refine norm_ (a' := ?_) ?_ ?_; rotate_left
          ·show Act.put _ (some 14) _ = _; simp only [Act.put, List.setIfInBounds_toArray, List.set_cons_zero, List.set_cons_succ, i64_w, i32_w]
           rfl
          refine pv_ 5 15 (bq 24 63) HT_ ?_; refine pv_ 6 16 (bq 24 127) HT_ ?_; refine pv_ 7 17 (bq 24 255) HT_ ?_; refine pv_ 8 18 (bq 24 511) HT_ ?_; refine pv_ 9 19 (bq 24 1023) HT_ ?_; refine pv_ 10 20 (bq 24 2047) HT_ ?_; refine pv_ 11 21 (bq 24 4095) HT_ ?_; refine pv_ 12 22 (bq 24 8191) HT_ ?_; refine pv_ 13 23 (bq 24 16383) HT_ ?_; refine pv_ 15 25 (bq 24 49151) HT_ ?_; refine pv_ 16 26 (bq 24 114687) HT_ ?_; refine pv_ 17 27 (bq 24 245759) HT_ ?_; refine pv_ 18 28 (bq 24 507903) HT_ ?_; refine pv_ 19 29 (bq 24 1032191) HT_ ?_; refine take_ (i := 14) (N := some 24) (v := ?_) (a' := ?_) (bq 24 1048575) rfl rfl (take_ofW HT_.out HW_.out (by kernel_rfl)) (fun _ _ _ h => h) (Or.inl ⟨by rfl, ?_⟩) hHeld ?_ ?_; rotate_left
          ·rintro w' ⟨s0, s1, s2, s3, s4, s5⟩; go_simp; (with_reducible rfl)
          rotate_left
          ·exact cbb2_0
          refine take_ (i := 20) (N := some 30) (v := ?_) (a' := ?_) (bq 24 2097151) rfl rfl (take_ofW HT_.out HW_.out (by kernel_rfl)) (fun _ _ _ h => h) (Or.inl ⟨by rfl, ?_⟩) hHeld ?_ ?_; rotate_left
          ·rintro w' ⟨s0, s1, s2, s3, s4, s5⟩; go_simp; (with_reducible rfl)
          rotate_left
          ·exact cbb2_0
          refine pv_ 21 31 (bq 24 4194303) HT_ ?_; refine pv_ 22 32 (bq 24 8388607) HT_ ?_; refine pv_ 23 33 (bq 24 16777215) HT_ ?_; refine done_ (done_of HT_.out (by kernel_rfl)) ?_; (try go_wp2)
          go_roundg k1
          case measure => have := HK1.out; omega
          case rel => exact ⟨(wrap64 (x3_1 + 1)), pbb2_3, H', ⟨pbb2_7⟩, ⟨pbb2_9⟩⟩
         ·rw [if_neg c10] at H; have c10b0 : (Op.bytesLess (((rd_T101 l0 (ji7)).f0).toList) (((rd_T101 l0 x3_1).f0).toList)) = false := by simpa using c10
          have c10z : (Op.bytesLess (((rd_T101 l0 x3_1).f0).toList) (((rd_T101 l0 (ji7)).f0).toList) || (((rd_T101 l0 x3_1).f0).toList) == (((rd_T101 l0 (ji7)).f0).toList)) = true := by rw [bytesLess_or, c10b0]; rfl
          clear c10; obtain rfl := Option.some.inj H; (try go_wp2); replace HB := Aside0.mk (below_drew1 HB.out); have p101 : 0 ≤ (x3_1 : Int) := of_decide_eq_true pbb2_6; have q101 : x3_1 < (l0.length : Int) := of_decide_eq_true pbb2_6; obtain ⟨ad101, e101, hx101_0, hx101_1⟩ := at_T101 HR0.out x3_1 p101 q101; have hw101_1 := hx101_1; have hw101_0 := hx101_0
          cases e101
          replace hx101_0 := (HB.out.cell (World.block_lt_of_cell? w _ hx101_0)).trans hx101_0; replace hx101_1 := (HB.out.cell (World.block_lt_of_cell? w _ hx101_1)).trans hx101_1; replace p101 := eq_true p101; replace q101 := eq_true q101; have p103 : 0 ≤ (x3_1 : Int) := of_decide_eq_true pbb2_6; have q103 : x3_1 < (l0.length : Int) := of_decide_eq_true pbb2_6; obtain ⟨ad103, e103, hx103_0, hx103_1⟩ := at_T101 HR0.out x3_1 p103 q103; have hw103_1 := hx103_1; have hw103_0 := hx103_0; obtain rfl : ad101 = ad103 := (by injection e103); replace hx103_0 := (HB.out.cell (World.block_lt_of_cell? w _ hx103_0)).trans hx103_0; replace hx103_1 := (HB.out.cell (World.block_lt_of_cell? w _ hx103_1)).trans hx103_1; replace p103 := eq_true p103; replace q103 := eq_true q103; have p104 : 0 ≤ ((ji7) : Int) := of_decide_eq_true pbb2_6; have q104 : (ji7) < (l0.length : Int) := of_decide_eq_true pbb2_6; obtain ⟨ad104, e104, hx104_0, hx104_1⟩ := at_T101 HR0.out (ji7) p104 q104; have hw104_1 := hx104_1; have hw104_0 := hx104_0; obtain rfl : ad101 = ad104 := (by injection e104); replace hx104_0 := (HB.out.cell (World.block_lt_of_cell? w _ hx104_0)).trans hx104_0; replace hx104_1 := (HB.out.cell (World.block_lt_of_cell? w _ hx104_1)).trans hx104_1; replace p104 := eq_true p104; replace q104 := eq_true q104; refine start_ (n := 24) (S := fun w' => w'.cell? (ad101.add ((x3_1).toNat * 2)) = some (.string ((rd_T101 l0 x3_1).f0)) ∧ w'.cell? ⟨(ad101.add ((x3_1).toNat * 2)).block, (ad101.add ((x3_1).toNat * 2)).off + 1, none⟩ = some (.string ((rd_T101 l0 x3_1).f1)) ∧ w'.cell? (ad101.add ((x3_1).toNat * 2)) = some (.string ((rd_T101 l0 x3_1).f0)) ∧ w'.cell? ⟨(ad101.add ((x3_1).toNat * 2)).block, (ad101.add ((x3_1).toNat * 2)).off + 1, none⟩ = some (.string ((rd_T101 l0 x3_1).f1)) ∧ w'.cell? (ad101.add (((ji7)).toNat * 2)) = some (.string ((rd_T101 l0 (ji7)).f0)) ∧ w'.cell? ⟨(ad101.add (((ji7)).toNat * 2)).block, (ad101.add (((ji7)).toNat * 2)).off + 1, none⟩ = some (.string ((rd_T101 l0 (ji7)).f1))) (ds := []) (bq 24 0) (by kernel_rfl) rfl rfl ⟨((HB.out.cell (World.block_lt_of_cell? w _ hw101_0)).trans hw101_0), ((HB.out.cell (World.block_lt_of_cell? w _ hw101_1)).trans hw101_1), ((HB.out.cell (World.block_lt_of_cell? w _ hw103_0)).trans hw103_0), ((HB.out.cell (World.block_lt_of_cell? w _ hw103_1)).trans hw103_1), ((HB.out.cell (World.block_lt_of_cell? w _ hw104_0)).trans hw104_0), ((HB.out.cell (World.block_lt_of_cell? w _ hw104_1)).trans hw104_1)⟩ (fun hHeld => ?_); refine with_tabW F42.tab4 F42.bits4 (fun HT_ HW_ => ?_); generalize wr.drew = w13 at HB hx101_0 hx101_1 hx103_0 hx103_1 hx104_0 hx104_1 hHeld ⊢; refine pv_ 0 10 (bq 24 1) HT_ ?_; refine pv_ 1 11 (bq 24 3) HT_ ?_; refine pv_ 2 12 (bq 24 7) HT_ ?_; refine take_ (i := 3) (N := some 13) (v := ?_) (a' := ?_) (bq 24 15) rfl rfl (take_ofW HT_.out HW_.out (by kernel_rfl)) (fun _ _ _ h => h) (Or.inl ⟨by rfl, ?_⟩) hHeld ?_ ?_; rotate_left
          ·rintro w' ⟨s0, s1, s2, s3, s4, s5⟩; go_simp; (with_reducible rfl)
          rotate_left
          ·exact cbb2_0
          refine one_ (i := 4) (N := some 14) (bq 24 31) rfl rfl (one_of HT_.out (by kernel_rfl)) (by decide) (fun K hK => ?_); refine goes_ Tryd.func69 (by kernel_rfl) rfl #[.agg #[.string ((rd_T101 l0 x3_1).f0), .string ((rd_T101 l0 x3_1).f1)]] (by rfl) rfl rfl pbb2_5 ?_; (with_reducible refine (F69.calls k1 ((rd_T101 l0 x3_1).f0) ((rd_T101 l0 x3_1).f1) true _ A4.out).mono ?_); rintro e w14 ⟨rfl, hb⟩; refine ⟨_, rfl, ?_⟩; replace HB := Aside0.mk (below_step pbb2_9 hb); (try clear hb); (try clear hb2); (try clear hk); (try clear hi); refine hK.out _ _ ⟨((HB.out.cell (World.block_lt_of_cell? w _ hw101_0)).trans hw101_0), ((HB.out.cell (World.block_lt_of_cell? w _ hw101_1)).trans hw101_1), ((HB.out.cell (World.block_lt_of_cell? w _ hw103_0)).trans hw103_0), ((HB.out.cell (World.block_lt_of_cell? w _ hw103_1)).trans hw103_1), ((HB.out.cell (World.block_lt_of_cell? w _ hw104_0)).trans hw104_0), ((HB.out.cell (World.block_lt_of_cell? w _ hw104_1)).trans hw104_1)⟩ (fun hHeld => ?_); clear hK K; refine norm_ (a' := ?_) ?_ ?_; rotate_left
          ·show Act.put _ (some 14) _ = _; simp only [Act.put, List.setIfInBounds_toArray, List.set_cons_zero, List.set_cons_succ, i64_w, i32_w]
           rfl
          refine pv_ 5 15 (bq 24 63) HT_ ?_; refine pv_ 6 16 (bq 24 127) HT_ ?_; refine pv_ 7 17 (bq 24 255) HT_ ?_; refine pv_ 8 18 (bq 24 511) HT_ ?_; refine pv_ 9 19 (bq 24 1023) HT_ ?_; refine pv_ 10 20 (bq 24 2047) HT_ ?_; refine pv_ 11 21 (bq 24 4095) HT_ ?_; refine pv_ 12 22 (bq 24 8191) HT_ ?_; refine pv_ 13 23 (bq 24 16383) HT_ ?_; refine pv_ 15 25 (bq 24 49151) HT_ ?_; refine pv_ 16 26 (bq 24 114687) HT_ ?_; refine pv_ 17 27 (bq 24 245759) HT_ ?_; refine pv_ 18 28 (bq 24 507903) HT_ ?_; refine pv_ 19 29 (bq 24 1032191) HT_ ?_; refine take_ (i := 14) (N := some 24) (v := ?_) (a' := ?_) (bq 24 1048575) rfl rfl (take_ofW HT_.out HW_.out (by kernel_rfl)) (fun _ _ _ h => h) (Or.inl ⟨by rfl, ?_⟩) hHeld ?_ ?_; rotate_left
          ·rintro w' ⟨s0, s1, s2, s3, s4, s5⟩; go_simp; (with_reducible rfl)
          rotate_left
          ·exact cbb2_0
          refine take_ (i := 20) (N := some 30) (v := ?_) (a' := ?_) (bq 24 2097151) rfl rfl (take_ofW HT_.out HW_.out (by kernel_rfl)) (fun _ _ _ h => h) (Or.inl ⟨by rfl, ?_⟩) hHeld ?_ ?_; rotate_left
          ·rintro w' ⟨s0, s1, s2, s3, s4, s5⟩; go_simp; (with_reducible rfl)
          rotate_left
          ·exact cbb2_0
          refine pv_ 21 31 (bq 24 4194303) HT_ ?_; refine pv_ 22 32 (bq 24 8388607) HT_ ?_; refine pv_ 23 33 (bq 24 16777215) HT_ ?_; refine done_ (done_of HT_.out (by kernel_rfl)) ?_; (try go_wp2)
          go_ret
          exact ⟨by first | rfl | (simp [errW_none, errW_some] <;> rfl) | (simp only [← hji7]; first | rfl | (simp [errW_none, errW_some] <;> rfl)) | (simp [*, errW_none, errW_some] <;> rfl), pbb2_9⟩
        ·rw [if_neg c9] at H; exact absurd H (by simp)
       ·rw [if_neg c8] at H; exact absurd H (by simp)
      ·rw [if_neg c6] at H; have c6b0 : decide (0 < x3_1) = false := decide_eq_false c6; clear c6; have H' := Aside0.mk H; clear H; (try go_wp2); replace HB := Aside0.mk (below_drew1 HB.out); have p101 : 0 ≤ (x3_1 : Int) := of_decide_eq_true pbb2_6; have q101 : x3_1 < (l0.length : Int) := of_decide_eq_true pbb2_6; obtain ⟨ad101, e101, hx101_0, hx101_1⟩ := at_T101 HR0.out x3_1 p101 q101; have hw101_1 := hx101_1; have hw101_0 := hx101_0
       cases e101
       replace hx101_0 := (HB.out.cell (World.block_lt_of_cell? w _ hx101_0)).trans hx101_0; replace hx101_1 := (HB.out.cell (World.block_lt_of_cell? w _ hx101_1)).trans hx101_1; replace p101 := eq_true p101; replace q101 := eq_true q101; refine start_ (n := 24) (S := fun w' => w'.cell? (ad101.add ((x3_1).toNat * 2)) = some (.string ((rd_T101 l0 x3_1).f0)) ∧ w'.cell? ⟨(ad101.add ((x3_1).toNat * 2)).block, (ad101.add ((x3_1).toNat * 2)).off + 1, none⟩ = some (.string ((rd_T101 l0 x3_1).f1))) (ds := []) (bq 24 0) (by kernel_rfl) rfl rfl ⟨((HB.out.cell (World.block_lt_of_cell? w _ hw101_0)).trans hw101_0), ((HB.out.cell (World.block_lt_of_cell? w _ hw101_1)).trans hw101_1)⟩ (fun hHeld => ?_); refine with_tabW F42.tab4 F42.bits4 (fun HT_ HW_ => ?_); generalize wr.drew = w15 at HB hx101_0 hx101_1 hHeld ⊢; refine pv_ 0 10 (bq 24 1) HT_ ?_; refine pv_ 1 11 (bq 24 3) HT_ ?_; refine pv_ 2 12 (bq 24 7) HT_ ?_; refine take_ (i := 3) (N := some 13) (v := ?_) (a' := ?_) (bq 24 15) rfl rfl (take_ofW HT_.out HW_.out (by kernel_rfl)) (fun _ _ _ h => h) (Or.inl ⟨by rfl, ?_⟩) hHeld ?_ ?_; rotate_left
       ·rintro w' ⟨s0, s1⟩; go_simp; (with_reducible rfl)
       rotate_left
       ·exact cbb2_0
       refine one_ (i := 4) (N := some 14) (bq 24 31) rfl rfl (one_of HT_.out (by kernel_rfl)) (by decide) (fun K hK => ?_); refine goes_ Tryd.func69 (by kernel_rfl) rfl #[.agg #[.string ((rd_T101 l0 x3_1).f0), .string ((rd_T101 l0 x3_1).f1)]] (by rfl) rfl rfl pbb2_5 ?_; (with_reducible refine (F69.calls k1 ((rd_T101 l0 x3_1).f0) ((rd_T101 l0 x3_1).f1) true _ A4.out).mono ?_); rintro e w16 ⟨rfl, hb⟩; refine ⟨_, rfl, ?_⟩; replace HB := Aside0.mk (below_step pbb2_9 hb); (try clear hb); (try clear hb2); (try clear hk); (try clear hi); refine hK.out _ _ ⟨((HB.out.cell (World.block_lt_of_cell? w _ hw101_0)).trans hw101_0), ((HB.out.cell (World.block_lt_of_cell? w _ hw101_1)).trans hw101_1)⟩ (fun hHeld => ?_); clear hK K; refine norm_ (a' := ?_) ?_ ?_; rotate_left
       ·show Act.put _ (some 14) _ = _; simp only [Act.put, List.setIfInBounds_toArray, List.set_cons_zero, List.set_cons_succ, i64_w, i32_w]
        rfl
       refine pv_ 5 15 (bq 24 63) HT_ ?_; refine pv_ 6 16 (bq 24 127) HT_ ?_; refine pv_ 7 17 (bq 24 255) HT_ ?_; refine pv_ 8 18 (bq 24 511) HT_ ?_; refine pv_ 9 19 (bq 24 1023) HT_ ?_; refine pure_ (i := 10) (N := some 20) (v := undef) (a' := ?_) (bq 24 2047) rfl rfl (any_of HT_.out (by kernel_rfl)) (fun _ _ _ h => h) (Or.inr ⟨by rfl, rfl⟩) ?_ ?_; rotate_left
       ·exact cbb2_0
       refine pure_ (i := 11) (N := some 21) (v := undef) (a' := ?_) (bq 24 4095) rfl rfl (any_of HT_.out (by kernel_rfl)) (fun _ _ _ h => h) (Or.inr ⟨by rfl, rfl⟩) ?_ ?_; rotate_left
       ·exact cbb2_0
       refine pure_ (i := 12) (N := some 22) (v := undef) (a' := ?_) (bq 24 8191) rfl rfl (any_of HT_.out (by kernel_rfl)) (fun _ _ _ h => h) (Or.inr ⟨by rfl, rfl⟩) ?_ ?_; rotate_left
       ·exact cbb2_0
       refine pure_ (i := 13) (N := some 23) (v := undef) (a' := ?_) (bq 24 16383) rfl rfl (any_of HT_.out (by kernel_rfl)) (fun _ _ _ h => h) (Or.inr ⟨by rfl, rfl⟩) ?_ ?_; rotate_left
       ·exact cbb2_0
       refine pure_ (i := 14) (N := some 24) (v := undef) (a' := ?_) (bq 24 32767) rfl rfl (any_of HT_.out (by kernel_rfl)) (fun _ _ _ h => h) (Or.inr ⟨by rfl, rfl⟩) ?_ ?_; rotate_left
       ·exact cbb2_0
       refine pure_ (i := 15) (N := some 25) (v := undef) (a' := ?_) (bq 24 65535) rfl rfl (any_of HT_.out (by kernel_rfl)) (fun _ _ _ h => h) (Or.inr ⟨by rfl, rfl⟩) ?_ ?_; rotate_left
       ·exact cbb2_0
       refine pure_ (i := 16) (N := some 26) (v := undef) (a' := ?_) (bq 24 131071) rfl rfl (any_of HT_.out (by kernel_rfl)) (fun _ _ _ h => h) (Or.inr ⟨by rfl, rfl⟩) ?_ ?_; rotate_left
       ·exact cbb2_0
       refine pure_ (i := 17) (N := some 27) (v := undef) (a' := ?_) (bq 24 262143) rfl rfl (any_of HT_.out (by kernel_rfl)) (fun _ _ _ h => h) (Or.inr ⟨by rfl, rfl⟩) ?_ ?_; rotate_left
       ·exact cbb2_0
       refine pure_ (i := 18) (N := some 28) (v := undef) (a' := ?_) (bq 24 524287) rfl rfl (any_of HT_.out (by kernel_rfl)) (fun _ _ _ h => h) (Or.inr ⟨by rfl, rfl⟩) ?_ ?_; rotate_left
       ·exact cbb2_0
       refine pure_ (i := 19) (N := some 29) (v := undef) (a' := ?_) (bq 24 1048575) rfl rfl (any_of HT_.out (by kernel_rfl)) (fun _ _ _ h => h) (Or.inr ⟨by rfl, rfl⟩) ?_ ?_; rotate_left
       ·exact cbb2_0
       refine pure_ (i := 20) (N := some 30) (v := undef) (a' := ?_) (bq 24 2097151) rfl rfl (any_of HT_.out (by kernel_rfl)) (fun _ _ _ h => h) (Or.inr ⟨by rfl, rfl⟩) ?_ ?_; rotate_left
       ·exact cbb2_0
       refine pure_ (i := 21) (N := some 31) (v := undef) (a' := ?_) (bq 24 4194303) rfl rfl (any_of HT_.out (by kernel_rfl)) (fun _ _ _ h => h) (Or.inr ⟨by rfl, rfl⟩) ?_ ?_; rotate_left
       ·exact cbb2_0
       refine pv_ 22 32 (bq 24 8388607) HT_ ?_; refine pv_ 23 33 (bq 24 16777215) HT_ ?_; refine done_ (done_of HT_.out (by kernel_rfl)) ?_; (try go_wp2)
       go_roundg k1
       case measure => have := HK1.out; omega
       case rel => exact ⟨(wrap64 (x3_1 + 1)), pbb2_3, H', ⟨pbb2_7⟩, ⟨pbb2_9⟩⟩
     ·replace c5 := Bool.eq_false_iff.mpr c5; subst c5; rw [if_neg (show ¬ (false = true) by decide)] at H; obtain rfl := Option.some.inj H; (try go_wp2); replace HB := Aside0.mk (below_drew1 HB.out); have p101 : 0 ≤ (x3_1 : Int) := of_decide_eq_true pbb2_6; have q101 : x3_1 < (l0.length : Int) := of_decide_eq_true pbb2_6; obtain ⟨ad101, e101, hx101_0, hx101_1⟩ := at_T101 HR0.out x3_1 p101 q101; have hw101_1 := hx101_1; have hw101_0 := hx101_0
      cases e101
      replace hx101_0 := (HB.out.cell (World.block_lt_of_cell? w _ hx101_0)).trans hx101_0; replace hx101_1 := (HB.out.cell (World.block_lt_of_cell? w _ hx101_1)).trans hx101_1; replace p101 := eq_true p101; replace q101 := eq_true q101; refine start_ (n := 24) (S := fun w' => w'.cell? (ad101.add ((x3_1).toNat * 2)) = some (.string ((rd_T101 l0 x3_1).f0)) ∧ w'.cell? ⟨(ad101.add ((x3_1).toNat * 2)).block, (ad101.add ((x3_1).toNat * 2)).off + 1, none⟩ = some (.string ((rd_T101 l0 x3_1).f1))) (ds := []) (bq 24 0) (by kernel_rfl) rfl rfl ⟨((HB.out.cell (World.block_lt_of_cell? w _ hw101_0)).trans hw101_0), ((HB.out.cell (World.block_lt_of_cell? w _ hw101_1)).trans hw101_1)⟩ (fun hHeld => ?_); refine with_tabW F42.tab4 F42.bits4 (fun HT_ HW_ => ?_); generalize wr.drew = w17 at HB hx101_0 hx101_1 hHeld ⊢; refine pv_ 0 10 (bq 24 1) HT_ ?_; refine pv_ 1 11 (bq 24 3) HT_ ?_; refine pv_ 2 12 (bq 24 7) HT_ ?_; refine take_ (i := 3) (N := some 13) (v := ?_) (a' := ?_) (bq 24 15) rfl rfl (take_ofW HT_.out HW_.out (by kernel_rfl)) (fun _ _ _ h => h) (Or.inl ⟨by rfl, ?_⟩) hHeld ?_ ?_; rotate_left
      ·rintro w' ⟨s0, s1⟩; go_simp; (with_reducible rfl)
      rotate_left
      ·exact cbb2_0
      refine one_ (i := 4) (N := some 14) (bq 24 31) rfl rfl (one_of HT_.out (by kernel_rfl)) (by decide) (fun K hK => ?_); refine goes_ Tryd.func69 (by kernel_rfl) rfl #[.agg #[.string ((rd_T101 l0 x3_1).f0), .string ((rd_T101 l0 x3_1).f1)]] (by rfl) rfl rfl pbb2_5 ?_; (with_reducible refine (F69.calls k1 ((rd_T101 l0 x3_1).f0) ((rd_T101 l0 x3_1).f1) false _ A4.out).mono ?_); rintro e w18 ⟨rfl, hb⟩; refine ⟨_, rfl, ?_⟩; replace HB := Aside0.mk (below_step pbb2_9 hb); (try clear hb); (try clear hb2); (try clear hk); (try clear hi); refine hK.out _ _ ⟨((HB.out.cell (World.block_lt_of_cell? w _ hw101_0)).trans hw101_0), ((HB.out.cell (World.block_lt_of_cell? w _ hw101_1)).trans hw101_1)⟩ (fun hHeld => ?_); clear hK K; refine norm_ (a' := ?_) ?_ ?_; rotate_left
      ·show Act.put _ (some 14) _ = _; simp only [Act.put, List.setIfInBounds_toArray, List.set_cons_zero, List.set_cons_succ, i64_w, i32_w]
       rfl
      refine pv_ 5 15 (bq 24 63) HT_ ?_; refine pv_ 6 16 (bq 24 127) HT_ ?_; refine pure_ (i := 7) (N := some 17) (v := undef) (a' := ?_) (bq 24 255) rfl rfl (any_of HT_.out (by kernel_rfl)) (fun _ _ _ h => h) (Or.inr ⟨by rfl, rfl⟩) ?_ ?_; rotate_left
      ·exact cbb2_0
      refine pure_ (i := 8) (N := some 18) (v := undef) (a' := ?_) (bq 24 511) rfl rfl (any_of HT_.out (by kernel_rfl)) (fun _ _ _ h => h) (Or.inr ⟨by rfl, rfl⟩) ?_ ?_; rotate_left
      ·exact cbb2_0
      refine pure_ (i := 9) (N := some 19) (v := undef) (a' := ?_) (bq 24 1023) rfl rfl (any_of HT_.out (by kernel_rfl)) (fun _ _ _ h => h) (Or.inr ⟨by rfl, rfl⟩) ?_ ?_; rotate_left
      ·exact cbb2_0
      refine pure_ (i := 10) (N := some 20) (v := undef) (a' := ?_) (bq 24 2047) rfl rfl (any_of HT_.out (by kernel_rfl)) (fun _ _ _ h => h) (Or.inr ⟨by rfl, rfl⟩) ?_ ?_; rotate_left
      ·exact cbb2_0
      refine pure_ (i := 11) (N := some 21) (v := undef) (a' := ?_) (bq 24 4095) rfl rfl (any_of HT_.out (by kernel_rfl)) (fun _ _ _ h => h) (Or.inr ⟨by rfl, rfl⟩) ?_ ?_; rotate_left
      ·exact cbb2_0
      refine pure_ (i := 12) (N := some 22) (v := undef) (a' := ?_) (bq 24 8191) rfl rfl (any_of HT_.out (by kernel_rfl)) (fun _ _ _ h => h) (Or.inr ⟨by rfl, rfl⟩) ?_ ?_; rotate_left
      ·exact cbb2_0
      refine pure_ (i := 13) (N := some 23) (v := undef) (a' := ?_) (bq 24 16383) rfl rfl (any_of HT_.out (by kernel_rfl)) (fun _ _ _ h => h) (Or.inr ⟨by rfl, rfl⟩) ?_ ?_; rotate_left
      ·exact cbb2_0
      refine pure_ (i := 14) (N := some 24) (v := undef) (a' := ?_) (bq 24 32767) rfl rfl (any_of HT_.out (by kernel_rfl)) (fun _ _ _ h => h) (Or.inr ⟨by rfl, rfl⟩) ?_ ?_; rotate_left
      ·exact cbb2_0
      refine pure_ (i := 15) (N := some 25) (v := undef) (a' := ?_) (bq 24 65535) rfl rfl (any_of HT_.out (by kernel_rfl)) (fun _ _ _ h => h) (Or.inr ⟨by rfl, rfl⟩) ?_ ?_; rotate_left
      ·exact cbb2_0
      refine pure_ (i := 16) (N := some 26) (v := undef) (a' := ?_) (bq 24 131071) rfl rfl (any_of HT_.out (by kernel_rfl)) (fun _ _ _ h => h) (Or.inr ⟨by rfl, rfl⟩) ?_ ?_; rotate_left
      ·exact cbb2_0
      refine pure_ (i := 17) (N := some 27) (v := undef) (a' := ?_) (bq 24 262143) rfl rfl (any_of HT_.out (by kernel_rfl)) (fun _ _ _ h => h) (Or.inr ⟨by rfl, rfl⟩) ?_ ?_; rotate_left
      ·exact cbb2_0
      refine pure_ (i := 18) (N := some 28) (v := undef) (a' := ?_) (bq 24 524287) rfl rfl (any_of HT_.out (by kernel_rfl)) (fun _ _ _ h => h) (Or.inr ⟨by rfl, rfl⟩) ?_ ?_; rotate_left
      ·exact cbb2_0
      refine pure_ (i := 19) (N := some 29) (v := undef) (a' := ?_) (bq 24 1048575) rfl rfl (any_of HT_.out (by kernel_rfl)) (fun _ _ _ h => h) (Or.inr ⟨by rfl, rfl⟩) ?_ ?_; rotate_left
      ·exact cbb2_0
      refine pure_ (i := 20) (N := some 30) (v := undef) (a' := ?_) (bq 24 2097151) rfl rfl (any_of HT_.out (by kernel_rfl)) (fun _ _ _ h => h) (Or.inr ⟨by rfl, rfl⟩) ?_ ?_; rotate_left
      ·exact cbb2_0
      refine pure_ (i := 21) (N := some 31) (v := undef) (a' := ?_) (bq 24 4194303) rfl rfl (any_of HT_.out (by kernel_rfl)) (fun _ _ _ h => h) (Or.inr ⟨by rfl, rfl⟩) ?_ ?_; rotate_left
      ·exact cbb2_0
      refine pure_ (i := 22) (N := some 32) (v := undef) (a' := ?_) (bq 24 8388607) rfl rfl (any_of HT_.out (by kernel_rfl)) (fun _ _ _ h => h) (Or.inr ⟨by rfl, rfl⟩) ?_ ?_; rotate_left
      ·exact cbb2_0
      refine pv_ 23 33 (bq 24 16777215) HT_ ?_; refine done_ (done_of HT_.out (by kernel_rfl)) ?_; (try go_wp2)
      go_ret
      exact ⟨pbb2_18, pbb2_9⟩
    ·rw [if_neg c3] at H; exact absurd H (by simp)
   ·rw [if_neg c2] at H; have c2b0 := decide_eq_false c2; clear c2; obtain rfl := Option.some.inj H
    go_wp2
    go_ret
    exact ⟨pbb2_18, pbb2_9⟩
mutual
def F15.j0 : Nat → Bool → ByteArray → ByteArray → Int → Int → ByteArray → ByteArray → List (S101) → Option (Int)
  | 0, _, _, _, _, _, _, _, _ => none
  | k + 1, x3, x102000, x102001, x102002, x102003, x102004, x102005, x102006 => if x3 = true then (some 7) else ((F40.f k x102001).bind fun t105 => (if t105 = true then ((F41.f x102002 1000000000000).bind fun t106 => (if t106 = true then ((F41.f x102003 1000000000000).bind fun t107 => (F15.j1 k (!t107) x102000 x102001 x102002 x102003 x102004 x102005 x102006)) else (F15.j1 k true x102000 x102001 x102002 x102003 x102004 x102005 x102006))) else (some 13)))
def F15.j1 : Nat → Bool → ByteArray → ByteArray → Int → Int → ByteArray → ByteArray → List (S101) → Option (Int)
  | 0, _, _, _, _, _, _, _, _ => none
  | k + 1, x25, x102000, x102001, x102002, x102003, x102004, x102005, x102006 => if x25 = true then (some 4) else (if x102002 = 0 then (F15.j2 k (x102003 == 0) x102000 x102001 x102002 x102003 x102004 x102005 x102006) else (F15.j2 k false x102000 x102001 x102002 x102003 x102004 x102005 x102006))
def F15.j2 : Nat → Bool → ByteArray → ByteArray → Int → Int → ByteArray → ByteArray → List (S101) → Option (Int)
  | 0, _, _, _, _, _, _, _, _ => none
  | k + 1, x36, x102000, x102001, x102002, x102003, x102004, x102005, x102006 => if x36 = true then (some 2) else ((F42.f k x102006).bind fun t108 => (if t108 = true then (some 0) else (some 14)))
end
def F15.f (k : Nat) (a0_0 : ByteArray) (a0_1 : ByteArray) (a0_2 : Int) (a0_3 : Int) (a0_4 : ByteArray) (a0_5 : ByteArray) (l0_6 : List (S101)) : Option (Int) := (F38.f k a0_0).bind fun t102 => (if t102 = true then ((F39.f k a0_4).bind fun t103 => (if t103 = true then ((F39.f k a0_5).bind fun t104 => (F15.j0 k (!t104) a0_0 a0_1 a0_2 a0_3 a0_4 a0_5 l0_6)) else (F15.j0 k true a0_0 a0_1 a0_2 a0_3 a0_4 a0_5 l0_6))) else (F15.j0 k true a0_0 a0_1 a0_2 a0_3 a0_4 a0_5 l0_6))
set_option maxHeartbeats 8000000 in
set_option maxRecDepth 100000 in
theorem F15.calls (k : Nat) (a0_0 : ByteArray) (a0_1 : ByteArray) (a0_2 : Int) (a0_3 : Int) (a0_4 : ByteArray) (a0_5 : ByteArray) (A0_6 : Option Addr) (c0_6 : Nat) (l0_6 : List (S101)) (r : Int) (w : World) (hr0_6 : Kd.C k101 w A0_6 l0_6.length l0_6) (hc0_6 : l0_6.length ≤ c0_6) (h : F15.f k a0_0 a0_1 a0_2 a0_3 a0_4 a0_5 l0_6 = some r) :
    Calls Tryd.prog 15 #[.agg #[.string a0_0, .string a0_1, .int .i64 a0_2, .int .i64 a0_3, .string a0_4, .string a0_5, .slice A0_6 l0_6.length c0_6]] w fun e w' => e = .returned (.int .i64 r) ∧ Below w.heap.size w w' := by
 have hu24 := Tryd.underlying24; have hu9 := Tryd.underlying9; have hu3 := Tryd.underlying3; have hu22 := Tryd.underlying22; have HR0_6 := Aside0.mk hr0_6; have HC0_6 := Aside0.mk hc0_6; clear hr0_6 hc0_6; have HB := Aside0.mk (Below.refl w.heap.size w)
 unfold F15.f at h
 have H := h; clear h; have HC2 := Aside0.mk H; clear H; go_enter Tryd.func15, Tryd.ntmps15
 go_upto_region 1 with (first | ((with_reducible refine gate_dst (N := 1) rfl ?_); refine box_event ?hg (N := 1) ?hd (cs := #[.string a0_0, .string a0_1, .int .i64 a0_2, .int .i64 a0_3, .string a0_4, .string a0_5, .slice A0_6 l0_6.length c0_6]) (t := 24) ?hr ?_; (case hd => rfl); (case hg => rfl); (case hr => first | (go_simp; done) | (go_simp; rfl)); intro gb101 hg w3 hbox hb; have BK101 := Aside0.mk (hbox); have GW101 := Aside0.mk ((pbb2_8 : w.heap.size ≤ gb101)); have GE101 := Aside0.mk ((pbb2_8 : w.heap.size ≤ gb101)); replace HB := Aside0.mk (below_step pbb2_9 hb); clear hb hbox hg))
 (try simp only [Act.put, List.setIfInBounds_toArray, List.set_cons_zero, List.set_cons_succ])
 go_cut [3] (fun v3 wc => ∃ (kq : Nat) (x3_1 : Bool), v3 = .bool x3_1 ∧ Aside0 (F15.j0 kq x3_1 a0_0 a0_1 a0_2 a0_3 a0_4 a0_5 l0_6 = some r) ∧ Aside0 (kq ≤ k) ∧ Aside0 (wc.heap[gb101]? = some (.cells #[.string a0_0, .string a0_1, .int .i64 a0_2, .int .i64 a0_3, .string a0_4, .string a0_5, (.slice A0_6 l0_6.length c0_6)] 24 (0, 0))) ∧ Aside0 (Below w.heap.size w wc))
 case first =>
  have H := HC2.out; clear HC2; obtain ⟨t102, A40, H⟩ := bnd H; have A4 := Aside0.mk A40; clear A40
  by_cases c5 : t102 = true
  ·subst c5; rw [if_pos rfl] at H; obtain ⟨t103, A60, H⟩ := bnd H; have A6 := Aside0.mk A60; clear A60
   by_cases c7 : t103 = true
   ·subst c7; rw [if_pos rfl] at H; obtain ⟨t104, A80, H⟩ := bnd H; have A8 := Aside0.mk A80; clear A80; have H' := Aside0.mk H; clear H; obtain ⟨hcz9_0, hcz9_1, hcz9_2, hcz9_3, hcz9_4, hcz9_5, hcz9_6⟩ := cz7 BK101.out; obtain ⟨hfz9_0, hfz9_1, hfz9_2, hfz9_3, hfz9_4, hfz9_5, hfz9_6⟩ := fz7 BK101.out
    go_wp2_with (first | ((with_reducible refine gate_callee (f := 38) rfl ?_); refine goesL_ (some 6) rfl rfl Tryd.func38 (by kernel_rfl) rfl #[.string a0_0] rfl pbb2_5 ?_; (with_reducible refine (F38.calls k a0_0 true _ A4.out).mono ?_); rintro e w' ⟨rfl, ⟨nd, rfl⟩⟩; refine ⟨_, rfl, ?_⟩) | (go_at_call 39; (with_reducible refine (F39.calls k a0_4 true _ A6.out).mono ?_); rintro e w' ⟨rfl, ⟨nd, rfl⟩⟩) | (go_at_call 39; (with_reducible refine (F39.calls k a0_5 t104 _ A8.out).mono ?_); rintro e w' ⟨rfl, ⟨nd, rfl⟩⟩))
    go_meet
    case rel => exact ⟨_, (!t104), pbb2_3, H', ⟨pbb6_2⟩, ⟨pbb2_12⟩, ⟨pbb2_11⟩⟩
   ·replace c7 := Bool.eq_false_iff.mpr c7; subst c7; rw [if_neg (show ¬ (false = true) by decide)] at H; have H' := Aside0.mk H; clear H; obtain ⟨hcz10_0, hcz10_1, hcz10_2, hcz10_3, hcz10_4, hcz10_5, hcz10_6⟩ := cz7 BK101.out; obtain ⟨hfz10_0, hfz10_1, hfz10_2, hfz10_3, hfz10_4, hfz10_5, hfz10_6⟩ := fz7 BK101.out
    go_wp2_with (first | ((with_reducible refine gate_callee (f := 38) rfl ?_); refine goesL_ (some 6) rfl rfl Tryd.func38 (by kernel_rfl) rfl #[.string a0_0] rfl pbb2_5 ?_; (with_reducible refine (F38.calls k a0_0 true _ A4.out).mono ?_); rintro e w' ⟨rfl, ⟨nd, rfl⟩⟩; refine ⟨_, rfl, ?_⟩) | (go_at_call 39; (with_reducible refine (F39.calls k a0_4 false _ A6.out).mono ?_); rintro e w' ⟨rfl, ⟨nd, rfl⟩⟩))
    go_meet
    case rel => exact ⟨_, (true), pbb2_3, H', ⟨pbb6_2⟩, ⟨pbb2_12⟩, ⟨pbb2_11⟩⟩
  ·replace c5 := Bool.eq_false_iff.mpr c5; subst c5; rw [if_neg (show ¬ (false = true) by decide)] at H; have H' := Aside0.mk H; clear H; obtain ⟨hcz11_0, hcz11_1, hcz11_2, hcz11_3, hcz11_4, hcz11_5, hcz11_6⟩ := cz7 BK101.out; obtain ⟨hfz11_0, hfz11_1, hfz11_2, hfz11_3, hfz11_4, hfz11_5, hfz11_6⟩ := fz7 BK101.out
   go_wp2_with (first | ((with_reducible refine gate_callee (f := 38) rfl ?_); refine goesL_ (some 6) rfl rfl Tryd.func38 (by kernel_rfl) rfl #[.string a0_0] rfl pbb2_5 ?_; (with_reducible refine (F38.calls k a0_0 false _ A4.out).mono ?_); rintro e w' ⟨rfl, ⟨nd, rfl⟩⟩; refine ⟨_, rfl, ?_⟩))
   go_meet
   case rel => exact ⟨_, (true), pbb2_3, H', ⟨pbb6_2⟩, ⟨pbb2_12⟩, ⟨pbb2_11⟩⟩
 case rest =>
  clear HC2; obtain ⟨kq, x3_1, rfl, HA, HJ1, BK101, HB⟩ := hcut
  cases kq with
  | zero => exact absurd HA.out (by simp [F15.j0])
  | succ kj1 =>
   have H := HA.out; clear HA; simp only [F15.j0] at H
   by_cases c12 : x3_1 = true
   ·subst c12; rw [if_pos rfl] at H; obtain rfl := Option.some.inj H
    go_wp2
    go_ret
    exact ⟨pbb2_18, pbb2_11⟩
   ·replace c12 := Bool.eq_false_iff.mpr c12; subst c12; rw [if_neg (show ¬ (false = true) by decide)] at H; obtain ⟨t105, A130, H⟩ := bnd H; have A13 := Aside0.mk A130; clear A130
    by_cases c14 : t105 = true
    ·subst c14; rw [if_pos rfl] at H; have HC15 := Aside0.mk H; clear H; obtain ⟨hcz16_0, hcz16_1, hcz16_2, hcz16_3, hcz16_4, hcz16_5, hcz16_6⟩ := cz7 BK101.out; obtain ⟨hfz16_0, hfz16_1, hfz16_2, hfz16_3, hfz16_4, hfz16_5, hfz16_6⟩ := fz7 BK101.out
     go_upto_region 5 with (first | ((with_reducible refine gate_callee (f := 40) rfl ?_); refine goesL_ (some 23) rfl rfl Tryd.func40 (by kernel_rfl) rfl #[.string a0_1] rfl pbb2_5 ?_; (with_reducible refine (F40.calls kj1 a0_1 true _ A13.out).mono ?_); rintro e w' ⟨rfl, ⟨nd, rfl⟩⟩; refine ⟨_, rfl, ?_⟩))
     (try simp only [Act.put, List.setIfInBounds_toArray, List.set_cons_zero, List.set_cons_succ])
     go_cut [25] (fun v25 wc => ∃ (kq : Nat) (x25_14 : Bool), v25 = .bool x25_14 ∧ Aside0 (F15.j1 kq x25_14 a0_0 a0_1 a0_2 a0_3 a0_4 a0_5 l0_6 = some r) ∧ Aside0 (kq ≤ kj1) ∧ Aside0 (wc.heap[gb101]? = some (.cells #[.string a0_0, .string a0_1, .int .i64 a0_2, .int .i64 a0_3, .string a0_4, .string a0_5, (.slice A0_6 l0_6.length c0_6)] 24 (0, 0))) ∧ Aside0 (Below w.heap.size w wc))
     case first =>
      have H := HC15.out; clear HC15; obtain ⟨t106, A170, H⟩ := bnd H; have A17 := Aside0.mk A170; clear A170
      by_cases c18 : t106 = true
      ·subst c18; rw [if_pos rfl] at H; obtain ⟨t107, A190, H⟩ := bnd H; have A19 := Aside0.mk A190; clear A190; have H' := Aside0.mk H; clear H; obtain ⟨hcz20_0, hcz20_1, hcz20_2, hcz20_3, hcz20_4, hcz20_5, hcz20_6⟩ := cz7 BK101.out; obtain ⟨hfz20_0, hfz20_1, hfz20_2, hfz20_3, hfz20_4, hfz20_5, hfz20_6⟩ := fz7 BK101.out
       go_wp2_with (first | ((with_reducible refine gate_callee (f := 41) rfl ?_); refine goesL_ (some 28) rfl rfl Tryd.func41 (by kernel_rfl) rfl #[.int .i64 a0_2, .int .i64 1000000000000] rfl pbb2_5 ?_; (with_reducible refine (F41.calls a0_2 1000000000000 true _ A17.out).mono ?_); rintro e w' ⟨rfl, ⟨nd, rfl⟩⟩; refine ⟨_, rfl, ?_⟩) | (go_at_call 41; (with_reducible refine (F41.calls a0_3 1000000000000 t107 _ A19.out).mono ?_); rintro e w' ⟨rfl, ⟨nd, rfl⟩⟩))
       go_meet
       case rel => exact ⟨_, (!t107), pbb2_3, H', ⟨pre1_0⟩, ⟨pbb2_12⟩, ⟨pbb2_11⟩⟩
      ·replace c18 := Bool.eq_false_iff.mpr c18; subst c18; rw [if_neg (show ¬ (false = true) by decide)] at H; have H' := Aside0.mk H; clear H; obtain ⟨hcz21_0, hcz21_1, hcz21_2, hcz21_3, hcz21_4, hcz21_5, hcz21_6⟩ := cz7 BK101.out; obtain ⟨hfz21_0, hfz21_1, hfz21_2, hfz21_3, hfz21_4, hfz21_5, hfz21_6⟩ := fz7 BK101.out
       go_wp2_with (first | ((with_reducible refine gate_callee (f := 41) rfl ?_); refine goesL_ (some 28) rfl rfl Tryd.func41 (by kernel_rfl) rfl #[.int .i64 a0_2, .int .i64 1000000000000] rfl pbb2_5 ?_; (with_reducible refine (F41.calls a0_2 1000000000000 false _ A17.out).mono ?_); rintro e w' ⟨rfl, ⟨nd, rfl⟩⟩; refine ⟨_, rfl, ?_⟩))
       go_meet
       case rel => exact ⟨_, (true), pbb2_3, H', ⟨pre1_0⟩, ⟨pbb2_12⟩, ⟨pbb2_11⟩⟩
     case rest =>
      clear HC15; obtain ⟨kq, x25_14, rfl, HA, HJ14, BK101, HB⟩ := hcut
      cases kq with
      | zero => exact absurd HA.out (by simp [F15.j1])
      | succ kj14 =>
       have H := HA.out; clear HA; simp only [F15.j1] at H
       by_cases c22 : x25_14 = true
       ·subst c22; rw [if_pos rfl] at H; obtain rfl := Option.some.inj H
        go_wp2
        go_ret
        exact ⟨pbb2_18, pbb2_11⟩
       ·replace c22 := Bool.eq_false_iff.mpr c22; subst c22; rw [if_neg (show ¬ (false = true) by decide)] at H; have HC23 := Aside0.mk H; clear H
        go_upto_region 7 with (fail)
        go_cut [36] (fun v36 wc => ∃ (kq : Nat) (x36_22 : Bool), v36 = .bool x36_22 ∧ Aside0 (F15.j2 kq x36_22 a0_0 a0_1 a0_2 a0_3 a0_4 a0_5 l0_6 = some r) ∧ Aside0 (kq ≤ kj14) ∧ Aside0 (wc.heap[gb101]? = some (.cells #[.string a0_0, .string a0_1, .int .i64 a0_2, .int .i64 a0_3, .string a0_4, .string a0_5, (.slice A0_6 l0_6.length c0_6)] 24 (0, 0))) ∧ Aside0 (Below w.heap.size w wc))
        case first =>
         have H := HC23.out; clear HC23
         by_cases c24 : a0_2 = 0
         ·rw [if_pos c24] at H; have c24b0 := bT_ c24; have c24b1 := bF_ c24; clear c24; (first | rw [c24b0] | (simp only [i64_w, i32_w]; rw [c24b0]) | skip); have H' := Aside0.mk H; clear H; obtain ⟨hcz25_0, hcz25_1, hcz25_2, hcz25_3, hcz25_4, hcz25_5, hcz25_6⟩ := cz7 BK101.out; obtain ⟨hfz25_0, hfz25_1, hfz25_2, hfz25_3, hfz25_4, hfz25_5, hfz25_6⟩ := fz7 BK101.out
          go_wp2
          go_meet
          case rel => exact ⟨_, ((a0_3 == 0)), pbb2_3, H', ⟨by have := HJ1.out; have := HJ14.out; first | omega | exact Nat.le_refl _⟩, ⟨pbb2_12⟩, ⟨pbb2_11⟩⟩
         ·rw [if_neg c24] at H; have c24b0 := nF_ c24; have c24b1 := nT_ c24; (first | rw [c24b0] | (simp only [i64_w, i32_w]; rw [c24b0]) | skip); have H' := Aside0.mk H; clear H; obtain ⟨hcz26_0, hcz26_1, hcz26_2, hcz26_3, hcz26_4, hcz26_5, hcz26_6⟩ := cz7 BK101.out; obtain ⟨hfz26_0, hfz26_1, hfz26_2, hfz26_3, hfz26_4, hfz26_5, hfz26_6⟩ := fz7 BK101.out
          go_wp2
          go_meet
          case rel => exact ⟨_, (false), pbb2_3, H', ⟨by have := HJ1.out; have := HJ14.out; first | omega | exact Nat.le_refl _⟩, ⟨pbb2_12⟩, ⟨pbb2_11⟩⟩
        case rest =>
         clear HC23; obtain ⟨kq, x36_22, rfl, HA, HJ22, BK101, HB⟩ := hcut
         cases kq with
         | zero => exact absurd HA.out (by simp [F15.j2])
         | succ kj22 =>
          have H := HA.out; clear HA; simp only [F15.j2] at H
          by_cases c27 : x36_22 = true
          ·subst c27; rw [if_pos rfl] at H; obtain rfl := Option.some.inj H
           go_wp2
           go_ret
           exact ⟨pbb2_18, pbb2_11⟩
          ·replace c27 := Bool.eq_false_iff.mpr c27; subst c27; rw [if_neg (show ¬ (false = true) by decide)] at H; obtain ⟨t108, A280, H⟩ := bnd H; have A28 := Aside0.mk A280; clear A280
           by_cases c29 : t108 = true
           ·subst c29; rw [if_pos rfl] at H; obtain rfl := Option.some.inj H; obtain ⟨hcz30_0, hcz30_1, hcz30_2, hcz30_3, hcz30_4, hcz30_5, hcz30_6⟩ := cz7 BK101.out; obtain ⟨hfz30_0, hfz30_1, hfz30_2, hfz30_3, hfz30_4, hfz30_5, hfz30_6⟩ := fz7 BK101.out
            go_wp2_with (first | ((with_reducible refine gate_callee (f := 42) rfl ?_); refine goesL_ (some 48) rfl rfl Tryd.func42 (by kernel_rfl) rfl #[.slice A0_6 l0_6.length c0_6] rfl pbb2_5 ?_; (with_reducible refine (F42.calls kj22 _ _ l0_6 true _ pbb3_9 (by exact HC0_6.out) A28.out).mono ?_); rintro e w31 ⟨rfl, hb⟩; refine ⟨_, rfl, ?_⟩; replace BK101 := Aside0.mk (blk_below (g := gb101) (o := .cells #[.string a0_0, .string a0_1, .int .i64 a0_2, .int .i64 a0_3, .string a0_4, .string a0_5, .slice A0_6 l0_6.length c0_6] 24 (0, 0)) pbb2_12 hb); replace HB := Aside0.mk (below_step pbb2_11 hb); (try clear hb); (try clear hb2); (try clear hk); (try clear hi)))
            go_ret
            exact ⟨pbb2_18, pbb2_11⟩
           ·replace c29 := Bool.eq_false_iff.mpr c29; subst c29; rw [if_neg (show ¬ (false = true) by decide)] at H; obtain rfl := Option.some.inj H; obtain ⟨hcz32_0, hcz32_1, hcz32_2, hcz32_3, hcz32_4, hcz32_5, hcz32_6⟩ := cz7 BK101.out; obtain ⟨hfz32_0, hfz32_1, hfz32_2, hfz32_3, hfz32_4, hfz32_5, hfz32_6⟩ := fz7 BK101.out
            go_wp2_with (first | ((with_reducible refine gate_callee (f := 42) rfl ?_); refine goesL_ (some 48) rfl rfl Tryd.func42 (by kernel_rfl) rfl #[.slice A0_6 l0_6.length c0_6] rfl pbb2_5 ?_; (with_reducible refine (F42.calls kj22 _ _ l0_6 false _ pbb3_9 (by exact HC0_6.out) A28.out).mono ?_); rintro e w33 ⟨rfl, hb⟩; refine ⟨_, rfl, ?_⟩; replace BK101 := Aside0.mk (blk_below (g := gb101) (o := .cells #[.string a0_0, .string a0_1, .int .i64 a0_2, .int .i64 a0_3, .string a0_4, .string a0_5, .slice A0_6 l0_6.length c0_6] 24 (0, 0)) pbb2_12 hb); replace HB := Aside0.mk (below_step pbb2_11 hb); (try clear hb); (try clear hb2); (try clear hk); (try clear hi)))
            go_ret
            exact ⟨pbb2_18, pbb2_11⟩
    ·replace c14 := Bool.eq_false_iff.mpr c14; subst c14; rw [if_neg (show ¬ (false = true) by decide)] at H; obtain rfl := Option.some.inj H; obtain ⟨hcz34_0, hcz34_1, hcz34_2, hcz34_3, hcz34_4, hcz34_5, hcz34_6⟩ := cz7 BK101.out; obtain ⟨hfz34_0, hfz34_1, hfz34_2, hfz34_3, hfz34_4, hfz34_5, hfz34_6⟩ := fz7 BK101.out
     go_wp2_with (first | ((with_reducible refine gate_callee (f := 40) rfl ?_); refine goesL_ (some 23) rfl rfl Tryd.func40 (by kernel_rfl) rfl #[.string a0_1] rfl pbb2_5 ?_; (with_reducible refine (F40.calls kj1 a0_1 false _ A13.out).mono ?_); rintro e w' ⟨rfl, ⟨nd, rfl⟩⟩; refine ⟨_, rfl, ?_⟩))
     go_ret
     exact ⟨pbb2_18, pbb2_11⟩
def F52.l0 : Nat → List Int → Int → Int → Int → Option (Int × Bool)
  | 0, _, _, _, _ => none
  | k + 1, x0, x4, x5, x6 => if x6 < (x0.length : Int) then (if 0 ≤ x6 then (F52.l0 k x0 (wrap64 (x4 + ((rd x0 x6) / 4294967296))) (wrap64 (x5 + (Go.bits .and .i64 (rd x0 x6) 4294967295))) (wrap64 (x6 + 1))) else (none)) else (if (wrap64 (x4 + (x5 / 4294967296))) < (-2147483648) then (some (0, false)) else (if (wrap64 (x4 + (x5 / 4294967296))) > 2147483647 then (some (0, false)) else (some (wrap64 ((wrap64 ((wrap64 (x4 + (x5 / 4294967296))) * 4294967296)) + (Go.bits .and .i64 x5 4294967295)), true))))
def F52.f (k : Nat) (l0 : List Int) : Option (Int × Bool) := F52.l0 k l0 0 0 0
set_option maxHeartbeats 8000000 in
set_option maxRecDepth 100000 in
theorem F52.calls (k : Nat) (A0 : Option Addr) (c0 : Nat) (l0 : List Int) (r1 : Int) (r2 : Bool) (w : World) (hr0 : Kd.C (Kd.int .i64) w A0 l0.length l0) (hc0 : l0.length ≤ c0) (h : F52.f k l0 = some (r1, r2)) :
    Calls Tryd.prog 52 #[.slice A0 l0.length c0] w fun e w' => e = .returned (.tuple #[.int .i64 r1, .bool r2]) ∧ Drawn0 w w' := by
 have hu3 := Tryd.underlying3; have HR0 := Aside0.mk hr0; have HC0 := Aside0.mk hc0; clear hr0 hc0
 unfold F52.f at h
 have H := h; clear h; have H' := Aside0.mk H; clear H; go_enter Tryd.func52, Tryd.ntmps52
 go_wp2
 go_loopg [4, 5, 6] k (fun kq v4 v5 v6 w' => ∃ (x4_1 : Int) (x5_1 : Int) (x6_1 : Int), v4 = .int .i64 x4_1 ∧ v5 = .int .i64 x5_1 ∧ v6 = .int .i64 x6_1 ∧ Aside0 (F52.l0 kq l0 x4_1 x5_1 x6_1 = some (r1, r2)) ∧ Aside0 (kq ≤ k) ∧ Drawn0 w w')
 case atStart => exact ⟨(0), (0), (0), pbb2_3, pbb2_3, pbb2_3, H', ⟨Nat.le_refl _⟩, pbb2_4⟩
 case round =>
  clear H'; obtain ⟨x4_1, x5_1, x6_1, rfl, rfl, rfl, HA, HK1, ⟨m1, rfl⟩⟩ := hrel
  cases gk with
  | zero => exact absurd HA.out (by simp [F52.l0])
  | succ k1 =>
   have H := HA.out; clear HA; simp only [F52.l0] at H
   by_cases c2 : x6_1 < (l0.length : Int)
   ·rw [if_pos c2] at H; have c2b0 := decide_eq_true c2; clear c2
    by_cases c3 : 0 ≤ x6_1
    ·rw [if_pos c3] at H; have c3b0 := decide_eq_true c3; clear c3; have H' := Aside0.mk H; clear H; have p101 : 0 ≤ (x6_1 : Int) := of_decide_eq_true pbb2_6; have q101 : x6_1 < (l0.length : Int) := of_decide_eq_true pbb2_6; obtain ⟨ad101, e101, hx101_0⟩ := Kd.at_int HR0.out x6_1 p101 q101
     cases e101
     replace p101 := eq_true p101; replace q101 := eq_true q101; have p102 : 0 ≤ (x6_1 : Int) := of_decide_eq_true pbb2_6; have q102 : x6_1 < (l0.length : Int) := of_decide_eq_true pbb2_6; obtain ⟨ad102, e102, hx102_0⟩ := Kd.at_int HR0.out x6_1 p102 q102; obtain rfl : ad101 = ad102 := (by injection e102); replace p102 := eq_true p102; replace q102 := eq_true q102
     go_wp2
     go_roundg k1
     case measure => have := HK1.out; omega
     case rel => exact ⟨(wrap64 (x4_1 + ((rd l0 x6_1) / 4294967296))), (wrap64 (x5_1 + (Go.bits .and .i64 (rd l0 x6_1) 4294967295))), (wrap64 (x6_1 + 1)), pbb2_3, pbb2_3, pbb2_3, H', ⟨pbb2_7⟩, pbb2_4⟩
    ·rw [if_neg c3] at H; exact absurd H (by simp)
   ·rw [if_neg c2] at H; have c2b0 := decide_eq_false c2; clear c2
    by_cases c4 : (wrap64 (x4_1 + (x5_1 / 4294967296))) < (-2147483648)
    ·rw [if_pos c4] at H; have c4b0 := decide_eq_true c4; clear c4; simp only [Option.some.injEq, Prod.mk.injEq] at H; obtain ⟨rfl, rfl⟩ := H
     go_wp2
     go_ret2
     exact ⟨pbb2_3, pbb2_4⟩
    ·rw [if_neg c4] at H; have c4b0 := decide_eq_false c4; clear c4
     by_cases c5 : (wrap64 (x4_1 + (x5_1 / 4294967296))) > 2147483647
     ·rw [if_pos c5] at H; have c5b0 : decide (2147483647 < (wrap64 (x4_1 + (x5_1 / 4294967296)))) = true := decide_eq_true c5; clear c5; simp only [Option.some.injEq, Prod.mk.injEq] at H; obtain ⟨rfl, rfl⟩ := H
      go_wp2
      go_ret2
      exact ⟨pbb2_3, pbb2_4⟩
     ·rw [if_neg c5] at H; have c5b0 : decide (2147483647 < (wrap64 (x4_1 + (x5_1 / 4294967296)))) = false := decide_eq_false c5; clear c5; simp only [Option.some.injEq, Prod.mk.injEq] at H; obtain ⟨rfl, rfl⟩ := H
      go_wp2
      go_ret2
      exact ⟨pbb2_3, pbb2_4⟩
def F50.l0 : Nat → List (S24) → ByteArray → List Int → List Int → Int → Option (Int × Int × Bool)
  | 0, _, _, _, _, _ => none
  | k + 1, x0, x1, x7, x8, x9 => if x9 < (x0.length : Int) then (if 0 ≤ x9 then (if ((rd_T24 x0 x9).f1).toList = x1.toList then (if x7.length < 17592186044416 then (if x8.length < 17592186044416 then (F50.l0 k x0 x1 (x7 ++ [(rd_T24 x0 x9).f2]) (x8 ++ [(rd_T24 x0 x9).f3]) (wrap64 (x9 + 1))) else (none)) else (none)) else (F50.l0 k x0 x1 x7 x8 (wrap64 (x9 + 1)))) else (none)) else ((F52.f k x7).bind fun bt110 => ((F52.f k x8).bind fun bt112 => (if bt110.2 = true then (some (bt110.1, bt112.1, bt112.2)) else (some (bt110.1, bt112.1, false)))))
def F50.f (k : Nat) (l0 : List (S24)) (a1 : ByteArray) : Option (Int × Int × Bool) := F50.l0 k l0 a1 ([] : List Int) ([] : List Int) 0
set_option maxHeartbeats 8000000 in
set_option maxRecDepth 100000 in
theorem F50.calls (k : Nat) (A0 : Option Addr) (c0 : Nat) (l0 : List (S24)) (a1 : ByteArray) (r1 : Int) (r2 : Int) (r3 : Bool) (w : World) (hr0 : Kd.C k24 w A0 l0.length l0) (hc0 : l0.length ≤ c0) (h : F50.f k l0 a1 = some (r1, r2, r3)) :
    Calls Tryd.prog 50 #[.slice A0 l0.length c0, .string a1] w fun e w' => e = .returned (.tuple #[.int .i64 r1, .int .i64 r2, .bool r3]) ∧ Below w.heap.size w w' := by
 have hu9 := Tryd.underlying9; have hu3 := Tryd.underlying3; have HR0 := Aside0.mk hr0; have HC0 := Aside0.mk hc0; clear hr0 hc0; have HB := Aside0.mk (Below.refl w.heap.size w)
 unfold F50.f at h
 have H := h; clear h; have H' := Aside0.mk H; clear H; go_enter Tryd.func50, Tryd.ntmps50
 go_wp2
 go_loopg [7, 8, 9] k (fun kq v7 v8 v9 w' => ∃ (x7_1 : List Int) (x8_1 : List Int) (x9_1 : Int), v9 = .int .i64 x9_1 ∧ Aside0 (F50.l0 kq l0 a1 x7_1 x8_1 x9_1 = some (r1, r2, r3)) ∧ Aside0 (kq ≤ k) ∧ Aside0 (Kd.R (Kd.int .i64) 3 w' w.heap.size (fun k_ => some k_ ≠ (v8 : Value).ownBlock) v7 x7_1) ∧ Aside0 (Kd.R (Kd.int .i64) 3 w' w.heap.size (fun k_ => some k_ ≠ (v7 : Value).ownBlock) v8 x8_1) ∧ Aside0 (Below w.heap.size w w'))
 case atStart => exact ⟨(([] : List Int)), (([] : List Int)), (0), pbb2_3, H', ⟨Nat.le_refl _⟩, ⟨by first | exact Kd.R_nil _ _ _ _ _ | exact Kd.N_nil _ _ _ _ _ | exact Kd.V_nil _ _ _ _ _ | exact Kd.Q_nil _ _ _ _ _ | exact Kd.S_nil _ _ _ _ _⟩, ⟨by first | exact Kd.R_nil _ _ _ _ _ | exact Kd.N_nil _ _ _ _ _ | exact Kd.V_nil _ _ _ _ _ | exact Kd.Q_nil _ _ _ _ _ | exact Kd.S_nil _ _ _ _ _⟩, ⟨pbb2_9⟩⟩
 case round =>
  clear H'; obtain ⟨x7_1, x8_1, x9_1, rfl, HA, HK1, HO_7, HO_8, HB⟩ := hrel
  cases gk with
  | zero => exact absurd HA.out (by simp [F50.l0])
  | succ k1 =>
   have H := HA.out; clear HA; simp only [F50.l0] at H
   by_cases c3 : x9_1 < (l0.length : Int)
   ·rw [if_pos c3] at H; have c3b0 := decide_eq_true c3; clear c3
    by_cases c4 : 0 ≤ x9_1
    ·rw [if_pos c4] at H; have c4b0 := decide_eq_true c4; clear c4
     by_cases c5 : ((rd_T24 l0 x9_1).f1).toList = a1.toList
     ·rw [if_pos c5] at H; have c5b0 := bT_ c5; have c5b1 := bF_ c5; clear c5
      by_cases c6 : x7_1.length < 17592186044416
      ·rw [if_pos c6] at H; have LMc6 := Aside0.mk c6; clear c6; obtain ⟨y103, hy103⟩ : ∃ y_ : List Int, y_ = (x7_1 ++ [(rd_T24 l0 x9_1).f2]) := ⟨_, rfl⟩; replace H : (if x8_1.length < 17592186044416 then (F50.l0 k1 l0 a1 y103 (x8_1 ++ [(rd_T24 l0 x9_1).f3]) (wrap64 (x9_1 + 1))) else (none)) = some (r1, r2, r3) := by first | (rw [hy103]; with_reducible exact H) | (have H2_ := (Option.bind_some _ _).symm.trans H; rw [hy103]; with_reducible exact H2_) | (have H2_ := (Option.bind_some _ _).symm.trans H; with_reducible exact H2_) | with_reducible exact H | (rw [hy103]; exact H) | exact H
       have Ny103 := Aside0.mk hy103; clear hy103
       by_cases c7 : x8_1.length < 17592186044416
       ·rw [if_pos c7] at H; have LMc7 := Aside0.mk c7; clear c7; obtain ⟨y107, hy107⟩ : ∃ y_ : List Int, y_ = (x8_1 ++ [(rd_T24 l0 x9_1).f3]) := ⟨_, rfl⟩; replace H : (F50.l0 k1 l0 a1 y103 y107 (wrap64 (x9_1 + 1))) = some (r1, r2, r3) := by first | (rw [hy107]; with_reducible exact H) | (have H2_ := (Option.bind_some _ _).symm.trans H; rw [hy107]; with_reducible exact H2_) | (have H2_ := (Option.bind_some _ _).symm.trans H; with_reducible exact H2_) | with_reducible exact H | (rw [hy107]; exact H) | exact H
        have Ny107 := Aside0.mk hy107; clear hy107; have H' := Aside0.mk H; clear H; have p101 : 0 ≤ (x9_1 : Int) := of_decide_eq_true pbb2_6; have q101 : x9_1 < (l0.length : Int) := of_decide_eq_true pbb2_6; obtain ⟨ad101, A101_6, c101_6, e101, hx101_0, hx101_1, hx101_2, hx101_3, hx101_4, hx101_5, hx101_6, hl101_6, hi101_6⟩ := at_T24 HR0.out x9_1 p101 q101
        cases e101
        replace hx101_0 := (HB.out.cell (World.block_lt_of_cell? w _ hx101_0)).trans hx101_0; replace hx101_1 := (HB.out.cell (World.block_lt_of_cell? w _ hx101_1)).trans hx101_1; replace hx101_2 := (HB.out.cell (World.block_lt_of_cell? w _ hx101_2)).trans hx101_2; replace hx101_3 := (HB.out.cell (World.block_lt_of_cell? w _ hx101_3)).trans hx101_3; replace hx101_4 := (HB.out.cell (World.block_lt_of_cell? w _ hx101_4)).trans hx101_4; replace hx101_5 := (HB.out.cell (World.block_lt_of_cell? w _ hx101_5)).trans hx101_5; replace hx101_6 := (HB.out.cell (World.block_lt_of_cell? w _ hx101_6)).trans hx101_6; have HR101_6 := Aside0.mk hi101_6; have HC101_6 := Aside0.mk hl101_6; clear hi101_6 hl101_6; replace p101 := eq_true p101; replace q101 := eq_true q101; have p102 : 0 ≤ (x9_1 : Int) := of_decide_eq_true pbb2_6; have q102 : x9_1 < (l0.length : Int) := of_decide_eq_true pbb2_6; obtain ⟨ad102, A102_6, c102_6, e102, hx102_0, hx102_1, hx102_2, hx102_3, hx102_4, hx102_5, hx102_6, hl102_6, hi102_6⟩ := at_T24 HR0.out x9_1 p102 q102; obtain rfl : ad101 = ad102 := (by injection e102); replace hx102_0 := (HB.out.cell (World.block_lt_of_cell? w _ hx102_0)).trans hx102_0; replace hx102_1 := (HB.out.cell (World.block_lt_of_cell? w _ hx102_1)).trans hx102_1; replace hx102_2 := (HB.out.cell (World.block_lt_of_cell? w _ hx102_2)).trans hx102_2; replace hx102_3 := (HB.out.cell (World.block_lt_of_cell? w _ hx102_3)).trans hx102_3; replace hx102_4 := (HB.out.cell (World.block_lt_of_cell? w _ hx102_4)).trans hx102_4; replace hx102_5 := (HB.out.cell (World.block_lt_of_cell? w _ hx102_5)).trans hx102_5; replace hx102_6 := (HB.out.cell (World.block_lt_of_cell? w _ hx102_6)).trans hx102_6; have HR102_6 := Aside0.mk hi102_6; have HC102_6 := Aside0.mk hl102_6; clear hi102_6 hl102_6; replace p102 := eq_true p102; replace q102 := eq_true q102; have ea_ := Option.some.inj (hx101_6.symm.trans hx102_6); injection ea_ with ea_ en_ ec_
        subst ea_; subst ec_; clear en_
        go_wp2_with (first | ((with_reducible refine gate_builtin (b := .append) (xs := #[.tmp 27, .tmp 33]) rfl ?_); at_builtin; refine Kd.R_append (Kd.int .i64) (w0 := w) w.heap.size rfl (.tmp 27) (.tmp 33) 80 3 (.int .i64 0) 8 rfl Tryd.underlying80 info3 rfl (by decide) (by omega) u7 x7_1 ((rd_T24 l0 x9_1).f2) [.int .i64 ((rd_T24 l0 x9_1).f2)] (fun k_ => some k_ ≠ (u8 : Value).ownBlock) (fun _ => False) rfl rfl ?aP (fun _ hk => hk.elim) ?aF ?aO ?aB ?aS ?aL ?_; (case aP => exact rfl); (case aB => exact pbb2_9); (case aF => exact (fun k_ hk => Kd.fresh' (Kd.R_lt (by (with_reducible repeat (first | apply Kd.R_alloc | apply Kd.R_drewN | apply Kd.R_drew)); exact HO_8.out)) k_ hk)); (case aO => exact (by (with_reducible repeat (first | apply Kd.R_alloc | apply Kd.R_drewN | apply Kd.R_drew)); exact HO_7.out)); (case aS => exact (below_size pbb2_9)); (case aL => have := LMc6.out; omega); intro v104 w8 ho hb hg hat; rw [← Ny103.out] at ho; replace HO_8 := Aside0.mk (Kd.R_after (ok := (fun _ => True)) (by (with_reducible repeat (first | apply Kd.R_alloc | apply Kd.R_drewN | apply Kd.R_drew)); exact Kd.R_mono HO_8.out (fun _ hk => ⟨trivial, hk⟩)) hg hat); replace HB := Aside0.mk (hb); have HO105 := Aside0.mk (ho); clear HO_7; clear ho hb hg hat; have p106 : 0 ≤ (x9_1 : Int) := of_decide_eq_true pbb2_6; have q106 : x9_1 < (l0.length : Int) := of_decide_eq_true pbb2_6; obtain ⟨ad106, A106_6, c106_6, e106, hx106_0, hx106_1, hx106_2, hx106_3, hx106_4, hx106_5, hx106_6, hl106_6, hi106_6⟩ := at_T24 HR0.out x9_1 p106 q106; obtain rfl : ad101 = ad106 := (by injection e106); replace hx106_0 := (HB.out.cell (World.block_lt_of_cell? w _ hx106_0)).trans hx106_0; replace hx106_1 := (HB.out.cell (World.block_lt_of_cell? w _ hx106_1)).trans hx106_1; replace hx106_2 := (HB.out.cell (World.block_lt_of_cell? w _ hx106_2)).trans hx106_2; replace hx106_3 := (HB.out.cell (World.block_lt_of_cell? w _ hx106_3)).trans hx106_3; replace hx106_4 := (HB.out.cell (World.block_lt_of_cell? w _ hx106_4)).trans hx106_4; replace hx106_5 := (HB.out.cell (World.block_lt_of_cell? w _ hx106_5)).trans hx106_5; replace hx106_6 := (HB.out.cell (World.block_lt_of_cell? w _ hx106_6)).trans hx106_6; have HR106_6 := Aside0.mk hi106_6; have HC106_6 := Aside0.mk hl106_6; clear hi106_6 hl106_6; replace p106 := eq_true p106; replace q106 := eq_true q106) | ((with_reducible refine gate_builtin (b := .append) (xs := #[.tmp 35, .tmp 41]) rfl ?_); at_builtin; refine Kd.R_append (Kd.int .i64) (w0 := w) w.heap.size rfl (.tmp 35) (.tmp 41) 80 3 (.int .i64 0) 8 rfl Tryd.underlying80 info3 rfl (by decide) (by omega) u8 x8_1 ((rd_T24 l0 x9_1).f3) [.int .i64 ((rd_T24 l0 x9_1).f3)] (fun k_ => some k_ ≠ (v104 : Value).ownBlock) (fun _ => False) rfl rfl ?aP (fun _ hk => hk.elim) ?aF ?aO ?aB ?aS ?aL ?_; (case aP => exact rfl); (case aB => exact pbb2_9); (case aF => exact (fun k_ hk => Kd.fresh' (Kd.R_lt (by (with_reducible repeat (first | apply Kd.R_alloc | apply Kd.R_drewN | apply Kd.R_drew)); exact HO105.out)) k_ hk)); (case aO => exact (by (with_reducible repeat (first | apply Kd.R_alloc | apply Kd.R_drewN | apply Kd.R_drew)); exact Kd.R_mono HO_8.out (fun _ hk => hk.2))); (case aS => exact (below_size pbb2_9)); (case aL => have := LMc7.out; omega); intro v108 w9 ho hb hg hat; rw [← Ny107.out] at ho; replace HO105 := Aside0.mk (Kd.R_after (ok := (fun _ => True)) (by (with_reducible repeat (first | apply Kd.R_alloc | apply Kd.R_drewN | apply Kd.R_drew)); exact Kd.R_mono HO105.out (fun _ hk => ⟨trivial, hk⟩)) hg hat); replace HB := Aside0.mk (hb); have HO109 := Aside0.mk (ho); clear HO_8; clear ho hb hg hat))
        go_roundg k1
        case measure => have := HK1.out; omega
        case rel => exact ⟨(y103), (y107), (wrap64 (x9_1 + 1)), pbb2_3, H', ⟨pbb2_7⟩, ⟨by (with_reducible repeat (first | apply Kd.R_alloc | apply Kd.R_drewN | apply Kd.R_drew)); exact Kd.R_mono HO105.out (fun _ hk => hk.2)⟩, ⟨by (with_reducible repeat (first | apply Kd.R_alloc | apply Kd.R_drewN | apply Kd.R_drew)); exact HO109.out⟩, ⟨pbb2_9⟩⟩
       ·rw [if_neg c7] at H; exact absurd H (by simp)
      ·rw [if_neg c6] at H; exact absurd H (by simp)
     ·rw [if_neg c5] at H; have c5b0 := nF_ c5; have c5b1 := nT_ c5; have H' := Aside0.mk H; clear H; have p101 : 0 ≤ (x9_1 : Int) := of_decide_eq_true pbb2_6; have q101 : x9_1 < (l0.length : Int) := of_decide_eq_true pbb2_6; obtain ⟨ad101, A101_6, c101_6, e101, hx101_0, hx101_1, hx101_2, hx101_3, hx101_4, hx101_5, hx101_6, hl101_6, hi101_6⟩ := at_T24 HR0.out x9_1 p101 q101
      cases e101
      replace hx101_0 := (HB.out.cell (World.block_lt_of_cell? w _ hx101_0)).trans hx101_0; replace hx101_1 := (HB.out.cell (World.block_lt_of_cell? w _ hx101_1)).trans hx101_1; replace hx101_2 := (HB.out.cell (World.block_lt_of_cell? w _ hx101_2)).trans hx101_2; replace hx101_3 := (HB.out.cell (World.block_lt_of_cell? w _ hx101_3)).trans hx101_3; replace hx101_4 := (HB.out.cell (World.block_lt_of_cell? w _ hx101_4)).trans hx101_4; replace hx101_5 := (HB.out.cell (World.block_lt_of_cell? w _ hx101_5)).trans hx101_5; replace hx101_6 := (HB.out.cell (World.block_lt_of_cell? w _ hx101_6)).trans hx101_6; have HR101_6 := Aside0.mk hi101_6; have HC101_6 := Aside0.mk hl101_6; clear hi101_6 hl101_6; replace p101 := eq_true p101; replace q101 := eq_true q101
      go_wp2
      go_roundg k1
      case measure => have := HK1.out; omega
      case rel => exact ⟨(x7_1), (x8_1), (wrap64 (x9_1 + 1)), pbb2_3, H', ⟨pbb2_7⟩, ⟨by (with_reducible repeat (first | apply Kd.R_alloc | apply Kd.R_drewN | apply Kd.R_drew)); exact HO_7.out⟩, ⟨by (with_reducible repeat (first | apply Kd.R_alloc | apply Kd.R_drewN | apply Kd.R_drew)); exact HO_8.out⟩, ⟨pbb2_9⟩⟩
    ·rw [if_neg c4] at H; exact absurd H (by simp)
   ·rw [if_neg c3] at H; have c3b0 := decide_eq_false c3; clear c3; obtain ⟨⟨t110, t111⟩, A100, H⟩ := bnd H; (try dsimp only at H); have A10 := Aside0.mk A100; clear A100; obtain ⟨⟨t112, t113⟩, A110, H⟩ := bnd H; (try dsimp only at H); have A11 := Aside0.mk A110; clear A110
    by_cases c12 : t111 = true
    ·subst c12; rw [if_pos rfl] at H; simp only [Option.some.injEq, Prod.mk.injEq] at H; obtain ⟨rfl, rfl, rfl⟩ := H; obtain ⟨Ao13, co13, eo13⟩ := Kd.R_slice HO_7.out; subst eo13
     go_wp2_with (first | ((with_reducible refine gate_callee (f := 52) rfl ?_); refine goesL_ (some 45) rfl rfl Tryd.func52 (by kernel_rfl) rfl #[.slice Ao13 x7_1.length co13] rfl pbb2_5 ?_; (with_reducible refine (F52.calls k1 _ _ x7_1 t110 true _ (by repeat (first | exact (Kd.R_reads' HO_7.out).2.2 | (with_reducible refine Kd.C_alloc ?_ _) | (with_reducible refine Kd.C_drewN ?_ _) | (with_reducible refine Kd.C_drew ?_))) (by exact (Kd.R_reads' HO_7.out).2.1) A10.out).mono ?_); rintro e w' ⟨rfl, ⟨nd, rfl⟩⟩; refine ⟨_, rfl, ?_⟩; obtain ⟨Ao14, co14, eo14⟩ := Kd.R_slice HO_8.out; subst eo14) | ((with_reducible refine gate_callee (f := 52) rfl ?_); refine goesL_ (some 50) rfl rfl Tryd.func52 (by kernel_rfl) rfl #[.slice Ao14 x8_1.length co14] rfl pbb2_5 ?_; (with_reducible refine (F52.calls k1 _ _ x8_1 t112 t113 _ (by repeat (first | exact (Kd.R_reads' HO_8.out).2.2 | (with_reducible refine Kd.C_alloc ?_ _) | (with_reducible refine Kd.C_drewN ?_ _) | (with_reducible refine Kd.C_drew ?_))) (by exact (Kd.R_reads' HO_8.out).2.1) A11.out).mono ?_); rintro e w' ⟨rfl, ⟨nd, rfl⟩⟩; refine ⟨_, rfl, ?_⟩))
     go_ret3
     exact ⟨pbb2_18, pbb2_9⟩
    ·replace c12 := Bool.eq_false_iff.mpr c12; subst c12; rw [if_neg (show ¬ (false = true) by decide)] at H; simp only [Option.some.injEq, Prod.mk.injEq] at H; obtain ⟨rfl, rfl, rfl⟩ := H; obtain ⟨Ao15, co15, eo15⟩ := Kd.R_slice HO_7.out; subst eo15
     go_wp2_with (first | ((with_reducible refine gate_callee (f := 52) rfl ?_); refine goesL_ (some 45) rfl rfl Tryd.func52 (by kernel_rfl) rfl #[.slice Ao15 x7_1.length co15] rfl pbb2_5 ?_; (with_reducible refine (F52.calls k1 _ _ x7_1 t110 false _ (by repeat (first | exact (Kd.R_reads' HO_7.out).2.2 | (with_reducible refine Kd.C_alloc ?_ _) | (with_reducible refine Kd.C_drewN ?_ _) | (with_reducible refine Kd.C_drew ?_))) (by exact (Kd.R_reads' HO_7.out).2.1) A10.out).mono ?_); rintro e w' ⟨rfl, ⟨nd, rfl⟩⟩; refine ⟨_, rfl, ?_⟩; obtain ⟨Ao16, co16, eo16⟩ := Kd.R_slice HO_8.out; subst eo16) | ((with_reducible refine gate_callee (f := 52) rfl ?_); refine goesL_ (some 50) rfl rfl Tryd.func52 (by kernel_rfl) rfl #[.slice Ao16 x8_1.length co16] rfl pbb2_5 ?_; (with_reducible refine (F52.calls k1 _ _ x8_1 t112 t113 _ (by repeat (first | exact (Kd.R_reads' HO_8.out).2.2 | (with_reducible refine Kd.C_alloc ?_ _) | (with_reducible refine Kd.C_drewN ?_ _) | (with_reducible refine Kd.C_drew ?_))) (by exact (Kd.R_reads' HO_8.out).2.1) A11.out).mono ?_); rintro e w' ⟨rfl, ⟨nd, rfl⟩⟩; refine ⟨_, rfl, ?_⟩))
     go_ret3
     exact ⟨pbb2_18, pbb2_9⟩
def F24.l0 : Nat → List (S24) → List ByteArray → Int → Option (Bool)
  | 0, _, _, _ => none
  | k + 1, x0, x3, x4 => if x4 < (x3.length : Int) then (if 0 ≤ x4 then ((F50.f k x0 (rdOf ByteArray.empty x3 x4)).bind fun bt105 => (if bt105.2.2 = true then (if bt105.1 = 0 then (if bt105.2.1 = 0 then (F24.l0 k x0 x3 (wrap64 (x4 + 1))) else (some false)) else (some false)) else (some false))) else (none)) else (some true)
def F24.f (k : Nat) (l0 : List (S24)) : Option (Bool) := (F49.f l0).bind fun t101 => (F24.l0 k l0 t101 0)
set_option maxHeartbeats 8000000 in
set_option maxRecDepth 100000 in
theorem F24.calls (k : Nat) (A0 : Option Addr) (c0 : Nat) (l0 : List (S24)) (r : Bool) (w : World) (hr0 : Kd.C k24 w A0 l0.length l0) (hc0 : l0.length ≤ c0) (h : F24.f k l0 = some r) :
    Calls Tryd.prog 24 #[.slice A0 l0.length c0] w fun e w' => e = .returned (.bool r) ∧ Below w.heap.size w w' := by
 have hu9 := Tryd.underlying9; have HR0 := Aside0.mk hr0; have HC0 := Aside0.mk hc0; clear hr0 hc0; have HB := Aside0.mk (Below.refl w.heap.size w)
 unfold F24.f at h
 have H := h; clear h; obtain ⟨t101, A20, H⟩ := bnd H; have A2 := Aside0.mk A20; clear A20; have H' := Aside0.mk H; clear H; go_enter Tryd.func24, Tryd.ntmps24
 go_wp2_with (first | ((with_reducible refine gate_callee (f := 49) rfl ?_); refine goesL_ (some 9) rfl rfl Tryd.func49 (by kernel_rfl) rfl #[.slice A0 l0.length c0] rfl pbb2_5 ?_; (with_reducible refine (F49.calls _ _ l0 t101 _ (by repeat (first | exact HR0.out | (with_reducible refine Kd.C_alloc ?_ _) | (with_reducible refine Kd.C_drewN ?_ _) | (with_reducible refine Kd.C_drew ?_))) HC0.out A2.out).mono ?_); rintro e w3 ⟨v102, rfl, ho0, hb⟩; refine ⟨_, rfl, ?_⟩; have HO103 := Aside0.mk (Kd.R_lower ho0 (below_size pbb2_9)); replace HB := Aside0.mk (below_step pbb2_9 hb); (try clear hb); (try clear hb2); (try clear hk); (try clear hi); (try clear ho0)))
 (try simp only [Act.put, List.setIfInBounds_toArray, List.set_cons_zero, List.set_cons_succ])
 go_loopg [4] k (fun kq v4 w' => ∃ (x4_1 : Int), v4 = .int .i64 x4_1 ∧ Aside0 (F24.l0 kq l0 t101 x4_1 = some r) ∧ Aside0 (kq ≤ k) ∧ Aside0 (Kd.R Kd.string 9 w' w.heap.size (fun _ => True) v102 t101) ∧ Aside0 (Below w.heap.size w w'))
 case atStart => exact ⟨(0), pbb2_3, H', ⟨Nat.le_refl _⟩, ⟨by (with_reducible repeat (first | apply Kd.R_alloc | apply Kd.R_drewN | apply Kd.R_drew)); exact HO103.out⟩, ⟨pbb2_9⟩⟩
 case round =>
  clear H'; obtain ⟨x4_1, rfl, HA, HK1, HO_3, HB⟩ := hrel
  cases gk with
  | zero => exact absurd HA.out (by simp [F24.l0])
  | succ k1 =>
   have H := HA.out; clear HA; simp only [F24.l0] at H
   by_cases c4 : x4_1 < (t101.length : Int)
   ·rw [if_pos c4] at H; have c4b0 := decide_eq_true c4; clear c4
    by_cases c5 : 0 ≤ x4_1
    ·rw [if_pos c5] at H; have c5b0 := decide_eq_true c5; clear c5; obtain ⟨⟨t105, t106, t107⟩, A60, H⟩ := bnd H; (try dsimp only at H); have A6 := Aside0.mk A60; clear A60
     by_cases c7 : t107 = true
     ·subst c7; rw [if_pos rfl] at H
      by_cases c8 : t105 = 0
      ·rw [if_pos c8] at H; have c8b0 := bT_ c8; have c8b1 := bF_ c8; clear c8
       by_cases c9 : t106 = 0
       ·rw [if_pos c9] at H; have c9b0 := bT_ c9; have c9b1 := bF_ c9; clear c9; have H' := Aside0.mk H; clear H; obtain ⟨Ao10, co10, eo10⟩ := Kd.R_slice HO_3.out; subst eo10; have p104 : 0 ≤ (x4_1 : Int) := of_decide_eq_true pbb2_6; have q104 : x4_1 < (t101.length : Int) := of_decide_eq_true pbb2_6; obtain ⟨ad104, e104, hx104_0⟩ := Kd.at_string (Kd.R_reads' HO_3.out).2.2 x4_1 p104 q104
        cases e104
        replace p104 := eq_true p104; replace q104 := eq_true q104
        go_wp2_with (first | ((with_reducible refine gate_callee (f := 50) rfl ?_); refine goesL_ (some 22) rfl rfl Tryd.func50 (by kernel_rfl) rfl #[.slice A0 l0.length c0, .string (rdOf ByteArray.empty t101 x4_1)] rfl pbb2_5 ?_; (with_reducible refine (F50.calls k1 _ _ l0 (rdOf ByteArray.empty t101 x4_1) t105 t106 true _ pre1_1 HC0.out A6.out).mono ?_); rintro e w11 ⟨rfl, hb⟩; refine ⟨_, rfl, ?_⟩; replace HO_3 := Aside0.mk (Kd.R_below pre1_2 hb); replace HB := Aside0.mk (below_step pbb2_9 hb); (try clear hb); (try clear hb2); (try clear hk); (try clear hi)))
        go_roundg k1
        case measure => have := HK1.out; omega
        case rel => exact ⟨(wrap64 (x4_1 + 1)), pbb2_3, H', ⟨pbb2_7⟩, ⟨pre1_2⟩, ⟨pbb2_9⟩⟩
       ·rw [if_neg c9] at H; have c9b0 := nF_ c9; have c9b1 := nT_ c9; obtain rfl := Option.some.inj H; obtain ⟨Ao12, co12, eo12⟩ := Kd.R_slice HO_3.out; subst eo12; have p104 : 0 ≤ (x4_1 : Int) := of_decide_eq_true pbb2_6; have q104 : x4_1 < (t101.length : Int) := of_decide_eq_true pbb2_6; obtain ⟨ad104, e104, hx104_0⟩ := Kd.at_string (Kd.R_reads' HO_3.out).2.2 x4_1 p104 q104
        cases e104
        replace p104 := eq_true p104; replace q104 := eq_true q104
        go_wp2_with (first | ((with_reducible refine gate_callee (f := 50) rfl ?_); refine goesL_ (some 22) rfl rfl Tryd.func50 (by kernel_rfl) rfl #[.slice A0 l0.length c0, .string (rdOf ByteArray.empty t101 x4_1)] rfl pbb2_5 ?_; (with_reducible refine (F50.calls k1 _ _ l0 (rdOf ByteArray.empty t101 x4_1) t105 t106 true _ pre1_1 HC0.out A6.out).mono ?_); rintro e w13 ⟨rfl, hb⟩; refine ⟨_, rfl, ?_⟩; replace HO_3 := Aside0.mk (Kd.R_below pre1_2 hb); replace HB := Aside0.mk (below_step pbb2_9 hb); (try clear hb); (try clear hb2); (try clear hk); (try clear hi)))
        go_ret
        exact ⟨pbb2_18, pbb2_9⟩
      ·rw [if_neg c8] at H; have c8b0 := nF_ c8; have c8b1 := nT_ c8; obtain rfl := Option.some.inj H; obtain ⟨Ao14, co14, eo14⟩ := Kd.R_slice HO_3.out; subst eo14; have p104 : 0 ≤ (x4_1 : Int) := of_decide_eq_true pbb2_6; have q104 : x4_1 < (t101.length : Int) := of_decide_eq_true pbb2_6; obtain ⟨ad104, e104, hx104_0⟩ := Kd.at_string (Kd.R_reads' HO_3.out).2.2 x4_1 p104 q104
       cases e104
       replace p104 := eq_true p104; replace q104 := eq_true q104
       go_wp2_with (first | ((with_reducible refine gate_callee (f := 50) rfl ?_); refine goesL_ (some 22) rfl rfl Tryd.func50 (by kernel_rfl) rfl #[.slice A0 l0.length c0, .string (rdOf ByteArray.empty t101 x4_1)] rfl pbb2_5 ?_; (with_reducible refine (F50.calls k1 _ _ l0 (rdOf ByteArray.empty t101 x4_1) t105 t106 true _ pre1_1 HC0.out A6.out).mono ?_); rintro e w15 ⟨rfl, hb⟩; refine ⟨_, rfl, ?_⟩; replace HO_3 := Aside0.mk (Kd.R_below pre1_2 hb); replace HB := Aside0.mk (below_step pbb2_9 hb); (try clear hb); (try clear hb2); (try clear hk); (try clear hi)))
       go_ret
       exact ⟨pbb2_18, pbb2_9⟩
     ·replace c7 := Bool.eq_false_iff.mpr c7; subst c7; rw [if_neg (show ¬ (false = true) by decide)] at H; obtain rfl := Option.some.inj H; obtain ⟨Ao16, co16, eo16⟩ := Kd.R_slice HO_3.out; subst eo16; have p104 : 0 ≤ (x4_1 : Int) := of_decide_eq_true pbb2_6; have q104 : x4_1 < (t101.length : Int) := of_decide_eq_true pbb2_6; obtain ⟨ad104, e104, hx104_0⟩ := Kd.at_string (Kd.R_reads' HO_3.out).2.2 x4_1 p104 q104
      cases e104
      replace p104 := eq_true p104; replace q104 := eq_true q104
      go_wp2_with (first | ((with_reducible refine gate_callee (f := 50) rfl ?_); refine goesL_ (some 22) rfl rfl Tryd.func50 (by kernel_rfl) rfl #[.slice A0 l0.length c0, .string (rdOf ByteArray.empty t101 x4_1)] rfl pbb2_5 ?_; (with_reducible refine (F50.calls k1 _ _ l0 (rdOf ByteArray.empty t101 x4_1) t105 t106 false _ pre1_1 HC0.out A6.out).mono ?_); rintro e w17 ⟨rfl, hb⟩; refine ⟨_, rfl, ?_⟩; replace HO_3 := Aside0.mk (Kd.R_below pre1_2 hb); replace HB := Aside0.mk (below_step pbb2_9 hb); (try clear hb); (try clear hb2); (try clear hk); (try clear hi)))
      go_ret
      exact ⟨pbb2_18, pbb2_9⟩
    ·rw [if_neg c5] at H; exact absurd H (by simp)
   ·rw [if_neg c4] at H; have c4b0 := decide_eq_false c4; clear c4; obtain rfl := Option.some.inj H; obtain ⟨Ao18, co18, eo18⟩ := Kd.R_slice HO_3.out; subst eo18
    go_wp2
    go_ret
    exact ⟨pbb2_18, pbb2_9⟩
def F58.f (a0 : Int) : Option (Bool) := if a0 ≥ 0 then (some (decide (a0 ≤ 109572))) else (some false)
set_option maxHeartbeats 8000000 in
set_option maxRecDepth 100000 in
theorem F58.calls (a0 : Int) (r : Bool) (w : World) (h : F58.f a0 = some r) :
    Calls Tryd.prog 58 #[.int .i64 a0] w fun e w' => e = .returned (.bool r) ∧ Drawn0 w w' := by
 unfold F58.f at h
 have H := h; clear h
 by_cases c2 : a0 ≥ 0
 ·rw [if_pos c2] at H; have c2b0 : decide (0 ≤ a0) = true := decide_eq_true c2; clear c2; obtain rfl := Option.some.inj H; go_enter Tryd.func58, Tryd.ntmps58
  go_wp2
  go_ret
  exact ⟨pbb2_3, pbb2_4⟩
 ·rw [if_neg c2] at H; have c2b0 : decide (0 ≤ a0) = false := decide_eq_false c2; clear c2; obtain rfl := Option.some.inj H; go_enter Tryd.func58, Tryd.ntmps58
  go_wp2
  go_ret
  exact ⟨pbb2_3, pbb2_4⟩
def F71.l0 : Nat → ByteArray → Int → Option (Bool)
  | 0, _, _ => none
  | k + 1, x0, x3 => if x3 < (x0.size : Int) then (if 0 ≤ x3 then (if (bt x0 x3) < 32 then (some false) else (if (bt x0 x3) > 126 then (some false) else (F71.l0 k x0 (wrap64 (x3 + 1))))) else (none)) else (some (decide ((x0.size : Int) ≤ 60)))
def F71.f (k : Nat) (a0 : ByteArray) : Option (Bool) := F71.l0 k a0 0
set_option maxHeartbeats 8000000 in
set_option maxRecDepth 100000 in
theorem F71.calls (k : Nat) (a0 : ByteArray) (r : Bool) (w : World) (h : F71.f k a0 = some r) :
    Calls Tryd.prog 71 #[.string a0] w fun e w' => e = .returned (.bool r) ∧ Drawn0 w w' := by
 unfold F71.f at h
 have H := h; clear h; have H' := Aside0.mk H; clear H; go_enter Tryd.func71, Tryd.ntmps71
 go_wp2
 go_loopg [3] k (fun kq v3 w' => ∃ (x3_1 : Int), v3 = .int .i64 x3_1 ∧ Aside0 (F71.l0 kq a0 x3_1 = some r) ∧ Aside0 (kq ≤ k) ∧ Drawn0 w w')
 case atStart => exact ⟨(0), pbb2_3, H', ⟨Nat.le_refl _⟩, pbb2_4⟩
 case round =>
  clear H'; obtain ⟨x3_1, rfl, HA, HK1, ⟨m1, rfl⟩⟩ := hrel
  cases gk with
  | zero => exact absurd HA.out (by simp [F71.l0])
  | succ k1 =>
   have H := HA.out; clear HA; simp only [F71.l0] at H
   by_cases c2 : x3_1 < (a0.size : Int)
   ·rw [if_pos c2] at H; have c2b0 := decide_eq_true c2; clear c2
    by_cases c3 : 0 ≤ x3_1
    ·rw [if_pos c3] at H; have c3b0 := decide_eq_true c3; clear c3
     by_cases c5 : (bt a0 x3_1) < 32
     ·rw [if_pos c5] at H; have c5b0 := decide_eq_true c5; clear c5; obtain rfl := Option.some.inj H; have p4 : 0 ≤ (x3_1 : Int) := of_decide_eq_true pbb2_6; have q4 : x3_1 < (a0.size : Int) := of_decide_eq_true pbb2_6; have hx4 := bt_at a0 x3_1; replace p4 := eq_true p4; replace q4 := eq_true q4
      go_wp2
      go_ret
      exact ⟨pbb2_3, pbb2_4⟩
     ·rw [if_neg c5] at H; have c5b0 := decide_eq_false c5; clear c5
      by_cases c7 : (bt a0 x3_1) > 126
      ·rw [if_pos c7] at H; have c7b0 : decide (126 < (bt a0 x3_1)) = true := decide_eq_true c7; clear c7; obtain rfl := Option.some.inj H; have p4 : 0 ≤ (x3_1 : Int) := of_decide_eq_true pbb2_6; have q4 : x3_1 < (a0.size : Int) := of_decide_eq_true pbb2_6; have hx4 := bt_at a0 x3_1; replace p4 := eq_true p4; replace q4 := eq_true q4; have p6 : 0 ≤ (x3_1 : Int) := of_decide_eq_true pbb2_6; have q6 : x3_1 < (a0.size : Int) := of_decide_eq_true pbb2_6; have hx6 := bt_at a0 x3_1; replace p6 := eq_true p6; replace q6 := eq_true q6
       go_wp2
       go_ret
       exact ⟨pbb2_3, pbb2_4⟩
      ·rw [if_neg c7] at H; have c7b0 : decide (126 < (bt a0 x3_1)) = false := decide_eq_false c7; clear c7; have H' := Aside0.mk H; clear H; have p4 : 0 ≤ (x3_1 : Int) := of_decide_eq_true pbb2_6; have q4 : x3_1 < (a0.size : Int) := of_decide_eq_true pbb2_6; have hx4 := bt_at a0 x3_1; replace p4 := eq_true p4; replace q4 := eq_true q4; have p6 : 0 ≤ (x3_1 : Int) := of_decide_eq_true pbb2_6; have q6 : x3_1 < (a0.size : Int) := of_decide_eq_true pbb2_6; have hx6 := bt_at a0 x3_1; replace p6 := eq_true p6; replace q6 := eq_true q6
       go_wp2
       go_roundg k1
       case measure => have := HK1.out; omega
       case rel => exact ⟨(wrap64 (x3_1 + 1)), pbb2_3, H', ⟨pbb2_7⟩, pbb2_4⟩
    ·rw [if_neg c3] at H; exact absurd H (by simp)
   ·rw [if_neg c2] at H; have c2b0 := decide_eq_false c2; clear c2; obtain rfl := Option.some.inj H
    go_wp2
    go_ret
    exact ⟨pbb2_3, pbb2_4⟩
mutual
def F44.j0 : Nat → Bool → Int → ByteArray → Int → Int → Int → ByteArray → ByteArray → Int → List (S24) → Option (Int)
  | 0, _, _, _, _, _, _, _, _, _, _ => none
  | k + 1, x3, x102000, x102001, x102002, x102003, x102004, x102005, x102006, x102007, x102008 => if x3 = true then (some 3) else ((F38.f k x102001).bind fun t102 => (if t102 = true then ((F38.f k x102006).bind fun t103 => (F44.j1 k (!t103) x102000 x102001 x102002 x102003 x102004 x102005 x102006 x102007 x102008)) else (F44.j1 k true x102000 x102001 x102002 x102003 x102004 x102005 x102006 x102007 x102008)))
def F44.j1 : Nat → Bool → Int → ByteArray → Int → Int → Int → ByteArray → ByteArray → Int → List (S24) → Option (Int)
  | 0, _, _, _, _, _, _, _, _, _, _ => none
  | k + 1, x22, x102000, x102001, x102002, x102003, x102004, x102005, x102006, x102007, x102008 => if x22 = true then (some 7) else ((F58.f x102002).bind fun t104 => (if t104 = true then ((F58.f x102003).bind fun t105 => (F44.j2 k (!t105) x102000 x102001 x102002 x102003 x102004 x102005 x102006 x102007 x102008)) else (F44.j2 k true x102000 x102001 x102002 x102003 x102004 x102005 x102006 x102007 x102008)))
def F44.j2 : Nat → Bool → Int → ByteArray → Int → Int → Int → ByteArray → ByteArray → Int → List (S24) → Option (Int)
  | 0, _, _, _, _, _, _, _, _, _, _ => none
  | k + 1, x33, x102000, x102001, x102002, x102003, x102004, x102005, x102006, x102007, x102008 => if x33 = true then (some 11) else (if x102004 < 1 then (F44.j3 k true x102000 x102001 x102002 x102003 x102004 x102005 x102006 x102007 x102008) else (F44.j3 k (decide (x102004 > 7)) x102000 x102001 x102002 x102003 x102004 x102005 x102006 x102007 x102008))
def F44.j3 : Nat → Bool → Int → ByteArray → Int → Int → Int → ByteArray → ByteArray → Int → List (S24) → Option (Int)
  | 0, _, _, _, _, _, _, _, _, _, _ => none
  | k + 1, x44, x102000, x102001, x102002, x102003, x102004, x102005, x102006, x102007, x102008 => if x44 = true then (some 10) else ((F71.f k x102005).bind fun t106 => (if t106 = true then (if (x102008.length : Int) < 2 then (some 2) else (if (x102008.length : Int) > 100 then (some 9) else (some 0))) else (some 5)))
end
def F44.f (k : Nat) (a0_0 : Int) (a0_1 : ByteArray) (a0_2 : Int) (a0_3 : Int) (a0_4 : Int) (a0_5 : ByteArray) (a0_6 : ByteArray) (a0_7 : Int) (l0_8 : List (S24)) : Option (Int) := if a0_0 < 0 then (F44.j0 k true a0_0 a0_1 a0_2 a0_3 a0_4 a0_5 a0_6 a0_7 l0_8) else (if a0_0 > 4000 then (F44.j0 k true a0_0 a0_1 a0_2 a0_3 a0_4 a0_5 a0_6 a0_7 l0_8) else (if a0_7 < 0 then (F44.j0 k true a0_0 a0_1 a0_2 a0_3 a0_4 a0_5 a0_6 a0_7 l0_8) else (F44.j0 k (decide (a0_7 > 4000)) a0_0 a0_1 a0_2 a0_3 a0_4 a0_5 a0_6 a0_7 l0_8)))
set_option maxHeartbeats 8000000 in
set_option maxRecDepth 100000 in
theorem F44.calls (k : Nat) (a0_0 : Int) (a0_1 : ByteArray) (a0_2 : Int) (a0_3 : Int) (a0_4 : Int) (a0_5 : ByteArray) (a0_6 : ByteArray) (a0_7 : Int) (A0_8 : Option Addr) (c0_8 : Nat) (l0_8 : List (S24)) (r : Int) (w : World) (hr0_8 : Kd.C k24 w A0_8 l0_8.length l0_8) (hc0_8 : l0_8.length ≤ c0_8) (h : F44.f k a0_0 a0_1 a0_2 a0_3 a0_4 a0_5 a0_6 a0_7 l0_8 = some r) :
    Calls Tryd.prog 44 #[.agg #[.int .i64 a0_0, .string a0_1, .int .i64 a0_2, .int .i64 a0_3, .int .i64 a0_4, .string a0_5, .string a0_6, .int .i64 a0_7, .slice A0_8 l0_8.length c0_8]] w fun e w' => e = .returned (.int .i64 r) ∧ Below w.heap.size w w' := by
 have hu33 := Tryd.underlying33; have hu3 := Tryd.underlying3; have hu9 := Tryd.underlying9; have hu26 := Tryd.underlying26; have HR0_8 := Aside0.mk hr0_8; have HC0_8 := Aside0.mk hc0_8; clear hr0_8 hc0_8; have HB := Aside0.mk (Below.refl w.heap.size w)
 unfold F44.f at h
 have H := h; clear h; have HC2 := Aside0.mk H; clear H; go_enter Tryd.func44, Tryd.ntmps44
 go_upto_region 1 with (first | ((with_reducible refine gate_dst (N := 1) rfl ?_); refine box_event ?hg (N := 1) ?hd (cs := #[.int .i64 a0_0, .string a0_1, .int .i64 a0_2, .int .i64 a0_3, .int .i64 a0_4, .string a0_5, .string a0_6, .int .i64 a0_7, .slice A0_8 l0_8.length c0_8]) (t := 33) ?hr ?_; (case hd => rfl); (case hg => rfl); (case hr => first | (go_simp; done) | (go_simp; rfl)); intro gb101 hg w3 hbox hb; have BK101 := Aside0.mk (hbox); have GW101 := Aside0.mk ((pbb2_8 : w.heap.size ≤ gb101)); have GE101 := Aside0.mk ((pbb2_8 : w.heap.size ≤ gb101)); replace HB := Aside0.mk (below_step pbb2_9 hb); clear hb hbox hg))
 (try simp only [Act.put, List.setIfInBounds_toArray, List.set_cons_zero, List.set_cons_succ])
 go_cut [3] (fun v3 wc => ∃ (kq : Nat) (x3_1 : Bool), v3 = .bool x3_1 ∧ Aside0 (F44.j0 kq x3_1 a0_0 a0_1 a0_2 a0_3 a0_4 a0_5 a0_6 a0_7 l0_8 = some r) ∧ Aside0 (kq ≤ k) ∧ Aside0 (wc.heap[gb101]? = some (.cells #[.int .i64 a0_0, .string a0_1, .int .i64 a0_2, .int .i64 a0_3, .int .i64 a0_4, .string a0_5, .string a0_6, .int .i64 a0_7, (.slice A0_8 l0_8.length c0_8)] 33 (0, 0))) ∧ Aside0 (Below w.heap.size w wc))
 case first =>
  have H := HC2.out; clear HC2
  by_cases c4 : a0_0 < 0
  ·rw [if_pos c4] at H; have c4b0 := decide_eq_true c4; clear c4; (first | rw [c4b0] | (simp only [i64_w, i32_w]; rw [c4b0]) | skip); have H' := Aside0.mk H; clear H; obtain ⟨hcz5_0, hcz5_1, hcz5_2, hcz5_3, hcz5_4, hcz5_5, hcz5_6, hcz5_7, hcz5_8⟩ := cz9 BK101.out; obtain ⟨hfz5_0, hfz5_1, hfz5_2, hfz5_3, hfz5_4, hfz5_5, hfz5_6, hfz5_7, hfz5_8⟩ := fz9 BK101.out
   go_wp2
   go_meet
   case rel => exact ⟨_, (true), pbb2_3, H', ⟨pbb6_2⟩, ⟨pbb2_12⟩, ⟨pbb2_11⟩⟩
  ·rw [if_neg c4] at H; have c4b0 := decide_eq_false c4; clear c4; (first | rw [c4b0] | (simp only [i64_w, i32_w]; rw [c4b0]) | skip)
   by_cases c6 : a0_0 > 4000
   ·rw [if_pos c6] at H; have c6b0 : decide (4000 < a0_0) = true := decide_eq_true c6; clear c6; have H' := Aside0.mk H; clear H; obtain ⟨hcz7_0, hcz7_1, hcz7_2, hcz7_3, hcz7_4, hcz7_5, hcz7_6, hcz7_7, hcz7_8⟩ := cz9 BK101.out; obtain ⟨hfz7_0, hfz7_1, hfz7_2, hfz7_3, hfz7_4, hfz7_5, hfz7_6, hfz7_7, hfz7_8⟩ := fz9 BK101.out
    go_wp2
    go_meet
    case rel => exact ⟨_, (true), pbb2_3, H', ⟨pbb6_2⟩, ⟨pbb2_12⟩, ⟨pbb2_11⟩⟩
   ·rw [if_neg c6] at H; have c6b0 : decide (4000 < a0_0) = false := decide_eq_false c6; clear c6
    by_cases c8 : a0_7 < 0
    ·rw [if_pos c8] at H; have c8b0 := decide_eq_true c8; clear c8; have H' := Aside0.mk H; clear H; obtain ⟨hcz9_0, hcz9_1, hcz9_2, hcz9_3, hcz9_4, hcz9_5, hcz9_6, hcz9_7, hcz9_8⟩ := cz9 BK101.out; obtain ⟨hfz9_0, hfz9_1, hfz9_2, hfz9_3, hfz9_4, hfz9_5, hfz9_6, hfz9_7, hfz9_8⟩ := fz9 BK101.out
     go_wp2
     go_meet
     case rel => exact ⟨_, (true), pbb2_3, H', ⟨pbb6_2⟩, ⟨pbb2_12⟩, ⟨pbb2_11⟩⟩
    ·rw [if_neg c8] at H; have c8b0 := decide_eq_false c8; clear c8; have H' := Aside0.mk H; clear H; obtain ⟨hcz10_0, hcz10_1, hcz10_2, hcz10_3, hcz10_4, hcz10_5, hcz10_6, hcz10_7, hcz10_8⟩ := cz9 BK101.out; obtain ⟨hfz10_0, hfz10_1, hfz10_2, hfz10_3, hfz10_4, hfz10_5, hfz10_6, hfz10_7, hfz10_8⟩ := fz9 BK101.out
     go_wp2
     go_meet
     case rel => exact ⟨_, (decide (a0_7 > 4000)), pbb2_3, H', ⟨pbb6_2⟩, ⟨pbb2_12⟩, ⟨pbb2_11⟩⟩
 case rest =>
  clear HC2; obtain ⟨kq, x3_1, rfl, HA, HJ1, BK101, HB⟩ := hcut
  cases kq with
  | zero => exact absurd HA.out (by simp [F44.j0])
  | succ kj1 =>
   have H := HA.out; clear HA; simp only [F44.j0] at H
   by_cases c11 : x3_1 = true
   ·subst c11; rw [if_pos rfl] at H; obtain rfl := Option.some.inj H
    go_wp2
    go_ret
    exact ⟨pbb2_18, pbb2_11⟩
   ·replace c11 := Bool.eq_false_iff.mpr c11; subst c11; rw [if_neg (show ¬ (false = true) by decide)] at H; have HC12 := Aside0.mk H; clear H
    go_upto_region 3 with (fail)
    go_cut [22] (fun v22 wc => ∃ (kq : Nat) (x22_11 : Bool), v22 = .bool x22_11 ∧ Aside0 (F44.j1 kq x22_11 a0_0 a0_1 a0_2 a0_3 a0_4 a0_5 a0_6 a0_7 l0_8 = some r) ∧ Aside0 (kq ≤ kj1) ∧ Aside0 (wc.heap[gb101]? = some (.cells #[.int .i64 a0_0, .string a0_1, .int .i64 a0_2, .int .i64 a0_3, .int .i64 a0_4, .string a0_5, .string a0_6, .int .i64 a0_7, (.slice A0_8 l0_8.length c0_8)] 33 (0, 0))) ∧ Aside0 (Below w.heap.size w wc))
    case first =>
     have H := HC12.out; clear HC12; obtain ⟨t102, A130, H⟩ := bnd H; have A13 := Aside0.mk A130; clear A130
     by_cases c14 : t102 = true
     ·subst c14; rw [if_pos rfl] at H; obtain ⟨t103, A150, H⟩ := bnd H; have A15 := Aside0.mk A150; clear A150; have H' := Aside0.mk H; clear H; obtain ⟨hcz16_0, hcz16_1, hcz16_2, hcz16_3, hcz16_4, hcz16_5, hcz16_6, hcz16_7, hcz16_8⟩ := cz9 BK101.out; obtain ⟨hfz16_0, hfz16_1, hfz16_2, hfz16_3, hfz16_4, hfz16_5, hfz16_6, hfz16_7, hfz16_8⟩ := fz9 BK101.out
      go_wp2_with (first | ((with_reducible refine gate_callee (f := 38) rfl ?_); refine goesL_ (some 25) rfl rfl Tryd.func38 (by kernel_rfl) rfl #[.string a0_1] rfl pbb2_5 ?_; (with_reducible refine (F38.calls kj1 a0_1 true _ A13.out).mono ?_); rintro e w' ⟨rfl, ⟨nd, rfl⟩⟩; refine ⟨_, rfl, ?_⟩) | (go_at_call 38; (with_reducible refine (F38.calls kj1 a0_6 t103 _ A15.out).mono ?_); rintro e w' ⟨rfl, ⟨nd, rfl⟩⟩))
      go_meet
      case rel => exact ⟨_, (!t103), pbb2_3, H', ⟨pre1_0⟩, ⟨pbb2_12⟩, ⟨pbb2_11⟩⟩
     ·replace c14 := Bool.eq_false_iff.mpr c14; subst c14; rw [if_neg (show ¬ (false = true) by decide)] at H; have H' := Aside0.mk H; clear H; obtain ⟨hcz17_0, hcz17_1, hcz17_2, hcz17_3, hcz17_4, hcz17_5, hcz17_6, hcz17_7, hcz17_8⟩ := cz9 BK101.out; obtain ⟨hfz17_0, hfz17_1, hfz17_2, hfz17_3, hfz17_4, hfz17_5, hfz17_6, hfz17_7, hfz17_8⟩ := fz9 BK101.out
      go_wp2_with (first | ((with_reducible refine gate_callee (f := 38) rfl ?_); refine goesL_ (some 25) rfl rfl Tryd.func38 (by kernel_rfl) rfl #[.string a0_1] rfl pbb2_5 ?_; (with_reducible refine (F38.calls kj1 a0_1 false _ A13.out).mono ?_); rintro e w' ⟨rfl, ⟨nd, rfl⟩⟩; refine ⟨_, rfl, ?_⟩))
      go_meet
      case rel => exact ⟨_, (true), pbb2_3, H', ⟨pre1_0⟩, ⟨pbb2_12⟩, ⟨pbb2_11⟩⟩
    case rest =>
     clear HC12; obtain ⟨kq, x22_11, rfl, HA, HJ11, BK101, HB⟩ := hcut
     cases kq with
     | zero => exact absurd HA.out (by simp [F44.j1])
     | succ kj11 =>
      have H := HA.out; clear HA; simp only [F44.j1] at H
      by_cases c18 : x22_11 = true
      ·subst c18; rw [if_pos rfl] at H; obtain rfl := Option.some.inj H
       go_wp2
       go_ret
       exact ⟨pbb2_18, pbb2_11⟩
      ·replace c18 := Bool.eq_false_iff.mpr c18; subst c18; rw [if_neg (show ¬ (false = true) by decide)] at H; have HC19 := Aside0.mk H; clear H
       go_upto_region 5 with (fail)
       go_cut [33] (fun v33 wc => ∃ (kq : Nat) (x33_18 : Bool), v33 = .bool x33_18 ∧ Aside0 (F44.j2 kq x33_18 a0_0 a0_1 a0_2 a0_3 a0_4 a0_5 a0_6 a0_7 l0_8 = some r) ∧ Aside0 (kq ≤ kj11) ∧ Aside0 (wc.heap[gb101]? = some (.cells #[.int .i64 a0_0, .string a0_1, .int .i64 a0_2, .int .i64 a0_3, .int .i64 a0_4, .string a0_5, .string a0_6, .int .i64 a0_7, (.slice A0_8 l0_8.length c0_8)] 33 (0, 0))) ∧ Aside0 (Below w.heap.size w wc))
       case first =>
        have H := HC19.out; clear HC19; obtain ⟨t104, A200, H⟩ := bnd H; have A20 := Aside0.mk A200; clear A200
        by_cases c21 : t104 = true
        ·subst c21; rw [if_pos rfl] at H; obtain ⟨t105, A220, H⟩ := bnd H; have A22 := Aside0.mk A220; clear A220; have H' := Aside0.mk H; clear H; obtain ⟨hcz23_0, hcz23_1, hcz23_2, hcz23_3, hcz23_4, hcz23_5, hcz23_6, hcz23_7, hcz23_8⟩ := cz9 BK101.out; obtain ⟨hfz23_0, hfz23_1, hfz23_2, hfz23_3, hfz23_4, hfz23_5, hfz23_6, hfz23_7, hfz23_8⟩ := fz9 BK101.out
         go_wp2_with (first | ((with_reducible refine gate_callee (f := 58) rfl ?_); refine goesL_ (some 36) rfl rfl Tryd.func58 (by kernel_rfl) rfl #[.int .i64 a0_2] rfl pbb2_5 ?_; (with_reducible refine (F58.calls a0_2 true _ A20.out).mono ?_); rintro e w' ⟨rfl, ⟨nd, rfl⟩⟩; refine ⟨_, rfl, ?_⟩) | (go_at_call 58; (with_reducible refine (F58.calls a0_3 t105 _ A22.out).mono ?_); rintro e w' ⟨rfl, ⟨nd, rfl⟩⟩))
         go_meet
         case rel => exact ⟨_, (!t105), pbb2_3, H', ⟨by have := HJ1.out; have := HJ11.out; first | omega | exact Nat.le_refl _⟩, ⟨pbb2_12⟩, ⟨pbb2_11⟩⟩
        ·replace c21 := Bool.eq_false_iff.mpr c21; subst c21; rw [if_neg (show ¬ (false = true) by decide)] at H; have H' := Aside0.mk H; clear H; obtain ⟨hcz24_0, hcz24_1, hcz24_2, hcz24_3, hcz24_4, hcz24_5, hcz24_6, hcz24_7, hcz24_8⟩ := cz9 BK101.out; obtain ⟨hfz24_0, hfz24_1, hfz24_2, hfz24_3, hfz24_4, hfz24_5, hfz24_6, hfz24_7, hfz24_8⟩ := fz9 BK101.out
         go_wp2_with (first | ((with_reducible refine gate_callee (f := 58) rfl ?_); refine goesL_ (some 36) rfl rfl Tryd.func58 (by kernel_rfl) rfl #[.int .i64 a0_2] rfl pbb2_5 ?_; (with_reducible refine (F58.calls a0_2 false _ A20.out).mono ?_); rintro e w' ⟨rfl, ⟨nd, rfl⟩⟩; refine ⟨_, rfl, ?_⟩))
         go_meet
         case rel => exact ⟨_, (true), pbb2_3, H', ⟨by have := HJ1.out; have := HJ11.out; first | omega | exact Nat.le_refl _⟩, ⟨pbb2_12⟩, ⟨pbb2_11⟩⟩
       case rest =>
        clear HC19; obtain ⟨kq, x33_18, rfl, HA, HJ18, BK101, HB⟩ := hcut
        cases kq with
        | zero => exact absurd HA.out (by simp [F44.j2])
        | succ kj18 =>
         have H := HA.out; clear HA; simp only [F44.j2] at H
         by_cases c25 : x33_18 = true
         ·subst c25; rw [if_pos rfl] at H; obtain rfl := Option.some.inj H
          go_wp2
          go_ret
          exact ⟨pbb2_18, pbb2_11⟩
         ·replace c25 := Bool.eq_false_iff.mpr c25; subst c25; rw [if_neg (show ¬ (false = true) by decide)] at H; have HC26 := Aside0.mk H; clear H
          go_upto_region 7 with (fail)
          go_cut [44] (fun v44 wc => ∃ (kq : Nat) (x44_25 : Bool), v44 = .bool x44_25 ∧ Aside0 (F44.j3 kq x44_25 a0_0 a0_1 a0_2 a0_3 a0_4 a0_5 a0_6 a0_7 l0_8 = some r) ∧ Aside0 (kq ≤ kj18) ∧ Aside0 (wc.heap[gb101]? = some (.cells #[.int .i64 a0_0, .string a0_1, .int .i64 a0_2, .int .i64 a0_3, .int .i64 a0_4, .string a0_5, .string a0_6, .int .i64 a0_7, (.slice A0_8 l0_8.length c0_8)] 33 (0, 0))) ∧ Aside0 (Below w.heap.size w wc))
          case first =>
           have H := HC26.out; clear HC26
           by_cases c27 : a0_4 < 1
           ·rw [if_pos c27] at H; have c27b0 := decide_eq_true c27; clear c27; (first | rw [c27b0] | (simp only [i64_w, i32_w]; rw [c27b0]) | skip); have H' := Aside0.mk H; clear H; obtain ⟨hcz28_0, hcz28_1, hcz28_2, hcz28_3, hcz28_4, hcz28_5, hcz28_6, hcz28_7, hcz28_8⟩ := cz9 BK101.out; obtain ⟨hfz28_0, hfz28_1, hfz28_2, hfz28_3, hfz28_4, hfz28_5, hfz28_6, hfz28_7, hfz28_8⟩ := fz9 BK101.out
            go_wp2
            go_meet
            case rel => exact ⟨_, (true), pbb2_3, H', ⟨by have := HJ1.out; have := HJ11.out; have := HJ18.out; first | omega | exact Nat.le_refl _⟩, ⟨pbb2_12⟩, ⟨pbb2_11⟩⟩
           ·rw [if_neg c27] at H; have c27b0 := decide_eq_false c27; clear c27; (first | rw [c27b0] | (simp only [i64_w, i32_w]; rw [c27b0]) | skip); have H' := Aside0.mk H; clear H; obtain ⟨hcz29_0, hcz29_1, hcz29_2, hcz29_3, hcz29_4, hcz29_5, hcz29_6, hcz29_7, hcz29_8⟩ := cz9 BK101.out; obtain ⟨hfz29_0, hfz29_1, hfz29_2, hfz29_3, hfz29_4, hfz29_5, hfz29_6, hfz29_7, hfz29_8⟩ := fz9 BK101.out
            go_wp2
            go_meet
            case rel => exact ⟨_, (decide (a0_4 > 7)), pbb2_3, H', ⟨by have := HJ1.out; have := HJ11.out; have := HJ18.out; first | omega | exact Nat.le_refl _⟩, ⟨pbb2_12⟩, ⟨pbb2_11⟩⟩
          case rest =>
           clear HC26; obtain ⟨kq, x44_25, rfl, HA, HJ25, BK101, HB⟩ := hcut
           cases kq with
           | zero => exact absurd HA.out (by simp [F44.j3])
           | succ kj25 =>
            have H := HA.out; clear HA; simp only [F44.j3] at H
            by_cases c30 : x44_25 = true
            ·subst c30; rw [if_pos rfl] at H; obtain rfl := Option.some.inj H
             go_wp2
             go_ret
             exact ⟨pbb2_18, pbb2_11⟩
            ·replace c30 := Bool.eq_false_iff.mpr c30; subst c30; rw [if_neg (show ¬ (false = true) by decide)] at H; obtain ⟨t106, A310, H⟩ := bnd H; have A31 := Aside0.mk A310; clear A310
             by_cases c32 : t106 = true
             ·subst c32; rw [if_pos rfl] at H
              by_cases c33 : (l0_8.length : Int) < 2
              ·rw [if_pos c33] at H; have c33b0 := decide_eq_true c33; have c33b1 : decide (l0_8.length < 2) = true := decide_eq_true (by omega); clear c33; obtain rfl := Option.some.inj H; obtain ⟨hcz34_0, hcz34_1, hcz34_2, hcz34_3, hcz34_4, hcz34_5, hcz34_6, hcz34_7, hcz34_8⟩ := cz9 BK101.out; obtain ⟨hfz34_0, hfz34_1, hfz34_2, hfz34_3, hfz34_4, hfz34_5, hfz34_6, hfz34_7, hfz34_8⟩ := fz9 BK101.out
               go_wp2_with (first | ((with_reducible refine gate_callee (f := 71) rfl ?_); refine goesL_ (some 56) rfl rfl Tryd.func71 (by kernel_rfl) rfl #[.string a0_5] rfl pbb2_5 ?_; (with_reducible refine (F71.calls kj25 a0_5 true _ A31.out).mono ?_); rintro e w' ⟨rfl, ⟨nd, rfl⟩⟩; refine ⟨_, rfl, ?_⟩))
               go_ret
               exact ⟨pbb2_18, pbb2_11⟩
              ·rw [if_neg c33] at H; have c33b0 := decide_eq_false c33; have c33b1 : decide (l0_8.length < 2) = false := decide_eq_false (by omega); clear c33
               by_cases c35 : (l0_8.length : Int) > 100
               ·rw [if_pos c35] at H; have c35b0 : decide (100 < (l0_8.length : Int)) = true := decide_eq_true c35; have c35b1 : decide (100 < l0_8.length) = true := decide_eq_true (by omega); clear c35; obtain rfl := Option.some.inj H; obtain ⟨hcz36_0, hcz36_1, hcz36_2, hcz36_3, hcz36_4, hcz36_5, hcz36_6, hcz36_7, hcz36_8⟩ := cz9 BK101.out; obtain ⟨hfz36_0, hfz36_1, hfz36_2, hfz36_3, hfz36_4, hfz36_5, hfz36_6, hfz36_7, hfz36_8⟩ := fz9 BK101.out
                go_wp2_with (first | ((with_reducible refine gate_callee (f := 71) rfl ?_); refine goesL_ (some 56) rfl rfl Tryd.func71 (by kernel_rfl) rfl #[.string a0_5] rfl pbb2_5 ?_; (with_reducible refine (F71.calls kj25 a0_5 true _ A31.out).mono ?_); rintro e w' ⟨rfl, ⟨nd, rfl⟩⟩; refine ⟨_, rfl, ?_⟩))
                go_ret
                exact ⟨pbb2_18, pbb2_11⟩
               ·rw [if_neg c35] at H; have c35b0 : decide (100 < (l0_8.length : Int)) = false := decide_eq_false c35; have c35b1 : decide (100 < l0_8.length) = false := decide_eq_false (by omega); clear c35; obtain rfl := Option.some.inj H; obtain ⟨hcz37_0, hcz37_1, hcz37_2, hcz37_3, hcz37_4, hcz37_5, hcz37_6, hcz37_7, hcz37_8⟩ := cz9 BK101.out; obtain ⟨hfz37_0, hfz37_1, hfz37_2, hfz37_3, hfz37_4, hfz37_5, hfz37_6, hfz37_7, hfz37_8⟩ := fz9 BK101.out
                go_wp2_with (first | ((with_reducible refine gate_callee (f := 71) rfl ?_); refine goesL_ (some 56) rfl rfl Tryd.func71 (by kernel_rfl) rfl #[.string a0_5] rfl pbb2_5 ?_; (with_reducible refine (F71.calls kj25 a0_5 true _ A31.out).mono ?_); rintro e w' ⟨rfl, ⟨nd, rfl⟩⟩; refine ⟨_, rfl, ?_⟩))
                go_ret
                exact ⟨pbb2_18, pbb2_11⟩
             ·replace c32 := Bool.eq_false_iff.mpr c32; subst c32; rw [if_neg (show ¬ (false = true) by decide)] at H; obtain rfl := Option.some.inj H; obtain ⟨hcz38_0, hcz38_1, hcz38_2, hcz38_3, hcz38_4, hcz38_5, hcz38_6, hcz38_7, hcz38_8⟩ := cz9 BK101.out; obtain ⟨hfz38_0, hfz38_1, hfz38_2, hfz38_3, hfz38_4, hfz38_5, hfz38_6, hfz38_7, hfz38_8⟩ := fz9 BK101.out
              go_wp2_with (first | ((with_reducible refine gate_callee (f := 71) rfl ?_); refine goesL_ (some 56) rfl rfl Tryd.func71 (by kernel_rfl) rfl #[.string a0_5] rfl pbb2_5 ?_; (with_reducible refine (F71.calls kj25 a0_5 false _ A31.out).mono ?_); rintro e w' ⟨rfl, ⟨nd, rfl⟩⟩; refine ⟨_, rfl, ?_⟩))
              go_ret
              exact ⟨pbb2_18, pbb2_11⟩
def F17.l0 : Nat → Int → Int → ByteArray → Int → Int → Int → ByteArray → ByteArray → Int → List (S24) → Option (Int × Int)
  | 0, _, _, _, _, _, _, _, _, _, _ => none
  | k + 1, x5, x102000, x102001, x102002, x102003, x102004, x102005, x102006, x102007, x102008 => if x5 < (x102008.length : Int) then (if 0 ≤ x5 then ((F15.f k ((rd_T24 x102008 x5).f0) ((rd_T24 x102008 x5).f1) ((rd_T24 x102008 x5).f2) ((rd_T24 x102008 x5).f3) ((rd_T24 x102008 x5).f4) ((rd_T24 x102008 x5).f5) ((rd_T24 x102008 x5).f6)).bind fun t104 => (if t104 = 0 then (F17.l0 k (wrap64 (x5 + 1)) x102000 x102001 x102002 x102003 x102004 x102005 x102006 x102007 x102008) else (some (x5, t104)))) else (none)) else ((F24.f k x102008).bind fun t105 => (if t105 = true then (some ((-1), 0)) else (some ((-1), 15))))
def F17.f (k : Nat) (a0_0 : Int) (a0_1 : ByteArray) (a0_2 : Int) (a0_3 : Int) (a0_4 : Int) (a0_5 : ByteArray) (a0_6 : ByteArray) (a0_7 : Int) (l0_8 : List (S24)) : Option (Int × Int) := (F44.f k a0_0 a0_1 a0_2 a0_3 a0_4 a0_5 a0_6 a0_7 l0_8).bind fun t102 => (if t102 = 0 then (F17.l0 k 0 a0_0 a0_1 a0_2 a0_3 a0_4 a0_5 a0_6 a0_7 l0_8) else (some ((-1), t102)))
set_option maxHeartbeats 8000000 in
set_option maxRecDepth 100000 in
theorem F17.calls (k : Nat) (a0_0 : Int) (a0_1 : ByteArray) (a0_2 : Int) (a0_3 : Int) (a0_4 : Int) (a0_5 : ByteArray) (a0_6 : ByteArray) (a0_7 : Int) (A0_8 : Option Addr) (c0_8 : Nat) (l0_8 : List (S24)) (r1 : Int) (r2 : Int) (w : World) (hr0_8 : Kd.C k24 w A0_8 l0_8.length l0_8) (hc0_8 : l0_8.length ≤ c0_8) (h : F17.f k a0_0 a0_1 a0_2 a0_3 a0_4 a0_5 a0_6 a0_7 l0_8 = some (r1, r2)) :
    Calls Tryd.prog 17 #[.agg #[.int .i64 a0_0, .string a0_1, .int .i64 a0_2, .int .i64 a0_3, .int .i64 a0_4, .string a0_5, .string a0_6, .int .i64 a0_7, .slice A0_8 l0_8.length c0_8]] w fun e w' => e = .returned (.tuple #[.int .i64 r1, .int .i64 r2]) ∧ Below w.heap.size w w' := by
 have hu33 := Tryd.underlying33; have hu26 := Tryd.underlying26; have hu24 := Tryd.underlying24; have HR0_8 := Aside0.mk hr0_8; have HC0_8 := Aside0.mk hc0_8; clear hr0_8 hc0_8; have HB := Aside0.mk (Below.refl w.heap.size w)
 unfold F17.f at h
 have H := h; clear h; obtain ⟨t102, A20, H⟩ := bnd H; have A2 := Aside0.mk A20; clear A20
 by_cases c3 : t102 = 0
 ·rw [if_pos c3] at H; have c3b0 := bT_ c3; have c3b1 := bF_ c3; clear c3; have H' := Aside0.mk H; clear H; go_enter Tryd.func17, Tryd.ntmps17
  go_wp2_with (first | ((with_reducible refine gate_dst (N := 1) rfl ?_); refine box_event ?hg (N := 1) ?hd (cs := #[.int .i64 a0_0, .string a0_1, .int .i64 a0_2, .int .i64 a0_3, .int .i64 a0_4, .string a0_5, .string a0_6, .int .i64 a0_7, .slice A0_8 l0_8.length c0_8]) (t := 33) ?hr ?_; (case hd => rfl); (case hg => rfl); (case hr => first | (go_simp; done) | (go_simp; rfl)); intro gb101 hg w4 hbox hb; have BK101 := Aside0.mk (hbox); have GW101 := Aside0.mk ((pbb2_8 : w.heap.size ≤ gb101)); have GE101 := Aside0.mk ((pbb2_8 : w.heap.size ≤ gb101)); replace HB := Aside0.mk (below_step pbb2_9 hb); clear hb hbox hg; obtain ⟨hcz5_0, hcz5_1, hcz5_2, hcz5_3, hcz5_4, hcz5_5, hcz5_6, hcz5_7, hcz5_8⟩ := cz9 BK101.out; obtain ⟨hfz5_0, hfz5_1, hfz5_2, hfz5_3, hfz5_4, hfz5_5, hfz5_6, hfz5_7, hfz5_8⟩ := fz9 BK101.out) | ((with_reducible refine gate_callee (f := 44) rfl ?_); refine goesL_ (some 8) rfl rfl Tryd.func44 (by kernel_rfl) rfl #[.agg #[.int .i64 a0_0, .string a0_1, .int .i64 a0_2, .int .i64 a0_3, .int .i64 a0_4, .string a0_5, .string a0_6, .int .i64 a0_7, .slice A0_8 l0_8.length c0_8]] rfl pbb2_5 ?_; (with_reducible refine (F44.calls k a0_0 a0_1 a0_2 a0_3 a0_4 a0_5 a0_6 a0_7 _ _ l0_8 t102 _ pbb6_6 (by exact HC0_8.out) A2.out).mono ?_); rintro e w6 ⟨rfl, hb⟩; refine ⟨_, rfl, ?_⟩; replace BK101 := Aside0.mk (blk_below (g := gb101) (o := .cells #[.int .i64 a0_0, .string a0_1, .int .i64 a0_2, .int .i64 a0_3, .int .i64 a0_4, .string a0_5, .string a0_6, .int .i64 a0_7, .slice A0_8 l0_8.length c0_8] 33 (0, 0)) pbb2_12 hb); replace HB := Aside0.mk (below_step pbb2_11 hb); (try clear hb); (try clear hb2); (try clear hk); (try clear hi)))
  (try simp only [Act.put, List.setIfInBounds_toArray, List.set_cons_zero, List.set_cons_succ])
  go_loopg [5] k (fun kq v5 w' => ∃ (x5_1 : Int), v5 = .int .i64 x5_1 ∧ Aside0 (F17.l0 kq x5_1 a0_0 a0_1 a0_2 a0_3 a0_4 a0_5 a0_6 a0_7 l0_8 = some (r1, r2)) ∧ Aside0 (kq ≤ k) ∧ Aside0 (w'.heap[gb101]? = some (.cells #[.int .i64 a0_0, .string a0_1, .int .i64 a0_2, .int .i64 a0_3, .int .i64 a0_4, .string a0_5, .string a0_6, .int .i64 a0_7, (.slice A0_8 l0_8.length c0_8)] 33 (0, 0))) ∧ Aside0 (Below w.heap.size w w'))
  case atStart => exact ⟨(0), pbb2_3, H', ⟨Nat.le_refl _⟩, ⟨pbb2_12⟩, ⟨pbb2_11⟩⟩
  case round =>
   clear H'; obtain ⟨x5_1, rfl, HA, HK1, BK101, HB⟩ := hrel
   cases gk with
   | zero => exact absurd HA.out (by simp [F17.l0])
   | succ k1 =>
    have H := HA.out; clear HA; simp only [F17.l0] at H
    by_cases c7 : x5_1 < (l0_8.length : Int)
    ·rw [if_pos c7] at H; have c7b0 := decide_eq_true c7; clear c7
     by_cases c8 : 0 ≤ x5_1
     ·rw [if_pos c8] at H; have c8b0 := decide_eq_true c8; clear c8; obtain ⟨t104, A90, H⟩ := bnd H; have A9 := Aside0.mk A90; clear A90
      by_cases c10 : t104 = 0
      ·rw [if_pos c10] at H; have c10b0 := bT_ c10; have c10b1 := bF_ c10; clear c10; have H' := Aside0.mk H; clear H; obtain ⟨hcz11_0, hcz11_1, hcz11_2, hcz11_3, hcz11_4, hcz11_5, hcz11_6, hcz11_7, hcz11_8⟩ := cz9 BK101.out; obtain ⟨hfz11_0, hfz11_1, hfz11_2, hfz11_3, hfz11_4, hfz11_5, hfz11_6, hfz11_7, hfz11_8⟩ := fz9 BK101.out; have p103 : 0 ≤ (x5_1 : Int) := of_decide_eq_true pbb2_6; have q103 : x5_1 < (l0_8.length : Int) := of_decide_eq_true pbb2_6; obtain ⟨ad103, A103_6, c103_6, e103, hx103_0, hx103_1, hx103_2, hx103_3, hx103_4, hx103_5, hx103_6, hl103_6, hi103_6⟩ := at_T24 HR0_8.out x5_1 p103 q103
       cases e103
       replace hx103_0 := (HB.out.cell (World.block_lt_of_cell? w _ hx103_0)).trans hx103_0; replace hx103_1 := (HB.out.cell (World.block_lt_of_cell? w _ hx103_1)).trans hx103_1; replace hx103_2 := (HB.out.cell (World.block_lt_of_cell? w _ hx103_2)).trans hx103_2; replace hx103_3 := (HB.out.cell (World.block_lt_of_cell? w _ hx103_3)).trans hx103_3; replace hx103_4 := (HB.out.cell (World.block_lt_of_cell? w _ hx103_4)).trans hx103_4; replace hx103_5 := (HB.out.cell (World.block_lt_of_cell? w _ hx103_5)).trans hx103_5; replace hx103_6 := (HB.out.cell (World.block_lt_of_cell? w _ hx103_6)).trans hx103_6; have HR103_6 := Aside0.mk hi103_6; have HC103_6 := Aside0.mk hl103_6; clear hi103_6 hl103_6; replace p103 := eq_true p103; replace q103 := eq_true q103
       go_wp2_with (first | ((with_reducible refine gate_callee (f := 15) rfl ?_); refine goesL_ (some 24) rfl rfl Tryd.func15 (by kernel_rfl) rfl #[.agg #[.string ((rd_T24 l0_8 x5_1).f0), .string ((rd_T24 l0_8 x5_1).f1), .int .i64 ((rd_T24 l0_8 x5_1).f2), .int .i64 ((rd_T24 l0_8 x5_1).f3), .string ((rd_T24 l0_8 x5_1).f4), .string ((rd_T24 l0_8 x5_1).f5), .slice A103_6 ((rd_T24 l0_8 x5_1).f6).length c103_6]] rfl pbb2_5 ?_; (with_reducible refine (F15.calls k1 ((rd_T24 l0_8 x5_1).f0) ((rd_T24 l0_8 x5_1).f1) ((rd_T24 l0_8 x5_1).f2) ((rd_T24 l0_8 x5_1).f3) ((rd_T24 l0_8 x5_1).f4) ((rd_T24 l0_8 x5_1).f5) _ _ ((rd_T24 l0_8 x5_1).f6) t104 _ (by repeat (first | exact (Kd.C_below HR103_6.out HB.out) | (with_reducible refine Kd.C_alloc ?_ _) | (with_reducible refine Kd.C_drewN ?_ _) | (with_reducible refine Kd.C_drew ?_))) (by exact HC103_6.out) A9.out).mono ?_); rintro e w12 ⟨rfl, hb⟩; refine ⟨_, rfl, ?_⟩; replace BK101 := Aside0.mk (blk_below (g := gb101) (o := .cells #[.int .i64 a0_0, .string a0_1, .int .i64 a0_2, .int .i64 a0_3, .int .i64 a0_4, .string a0_5, .string a0_6, .int .i64 a0_7, .slice (some ad103) l0_8.length c0_8] 33 (0, 0)) pbb2_12 hb); replace HB := Aside0.mk (below_step pbb2_11 hb); (try clear hb); (try clear hb2); (try clear hk); (try clear hi)))
       go_roundg k1
       case measure => have := HK1.out; omega
       case rel => exact ⟨(wrap64 (x5_1 + 1)), pbb2_3, H', ⟨pbb2_7⟩, ⟨pbb2_12⟩, ⟨pbb2_11⟩⟩
      ·rw [if_neg c10] at H; have c10b0 := nF_ c10; have c10b1 := nT_ c10; simp only [Option.some.injEq, Prod.mk.injEq] at H; obtain ⟨rfl, rfl⟩ := H; obtain ⟨hcz13_0, hcz13_1, hcz13_2, hcz13_3, hcz13_4, hcz13_5, hcz13_6, hcz13_7, hcz13_8⟩ := cz9 BK101.out; obtain ⟨hfz13_0, hfz13_1, hfz13_2, hfz13_3, hfz13_4, hfz13_5, hfz13_6, hfz13_7, hfz13_8⟩ := fz9 BK101.out; have p103 : 0 ≤ (x5_1 : Int) := of_decide_eq_true pbb2_6; have q103 : x5_1 < (l0_8.length : Int) := of_decide_eq_true pbb2_6; obtain ⟨ad103, A103_6, c103_6, e103, hx103_0, hx103_1, hx103_2, hx103_3, hx103_4, hx103_5, hx103_6, hl103_6, hi103_6⟩ := at_T24 HR0_8.out x5_1 p103 q103
       cases e103
       replace hx103_0 := (HB.out.cell (World.block_lt_of_cell? w _ hx103_0)).trans hx103_0; replace hx103_1 := (HB.out.cell (World.block_lt_of_cell? w _ hx103_1)).trans hx103_1; replace hx103_2 := (HB.out.cell (World.block_lt_of_cell? w _ hx103_2)).trans hx103_2; replace hx103_3 := (HB.out.cell (World.block_lt_of_cell? w _ hx103_3)).trans hx103_3; replace hx103_4 := (HB.out.cell (World.block_lt_of_cell? w _ hx103_4)).trans hx103_4; replace hx103_5 := (HB.out.cell (World.block_lt_of_cell? w _ hx103_5)).trans hx103_5; replace hx103_6 := (HB.out.cell (World.block_lt_of_cell? w _ hx103_6)).trans hx103_6; have HR103_6 := Aside0.mk hi103_6; have HC103_6 := Aside0.mk hl103_6; clear hi103_6 hl103_6; replace p103 := eq_true p103; replace q103 := eq_true q103
       go_wp2_with (first | ((with_reducible refine gate_callee (f := 15) rfl ?_); refine goesL_ (some 24) rfl rfl Tryd.func15 (by kernel_rfl) rfl #[.agg #[.string ((rd_T24 l0_8 x5_1).f0), .string ((rd_T24 l0_8 x5_1).f1), .int .i64 ((rd_T24 l0_8 x5_1).f2), .int .i64 ((rd_T24 l0_8 x5_1).f3), .string ((rd_T24 l0_8 x5_1).f4), .string ((rd_T24 l0_8 x5_1).f5), .slice A103_6 ((rd_T24 l0_8 x5_1).f6).length c103_6]] rfl pbb2_5 ?_; (with_reducible refine (F15.calls k1 ((rd_T24 l0_8 x5_1).f0) ((rd_T24 l0_8 x5_1).f1) ((rd_T24 l0_8 x5_1).f2) ((rd_T24 l0_8 x5_1).f3) ((rd_T24 l0_8 x5_1).f4) ((rd_T24 l0_8 x5_1).f5) _ _ ((rd_T24 l0_8 x5_1).f6) t104 _ (by repeat (first | exact (Kd.C_below HR103_6.out HB.out) | (with_reducible refine Kd.C_alloc ?_ _) | (with_reducible refine Kd.C_drewN ?_ _) | (with_reducible refine Kd.C_drew ?_))) (by exact HC103_6.out) A9.out).mono ?_); rintro e w14 ⟨rfl, hb⟩; refine ⟨_, rfl, ?_⟩; replace BK101 := Aside0.mk (blk_below (g := gb101) (o := .cells #[.int .i64 a0_0, .string a0_1, .int .i64 a0_2, .int .i64 a0_3, .int .i64 a0_4, .string a0_5, .string a0_6, .int .i64 a0_7, .slice (some ad103) l0_8.length c0_8] 33 (0, 0)) pbb2_12 hb); replace HB := Aside0.mk (below_step pbb2_11 hb); (try clear hb); (try clear hb2); (try clear hk); (try clear hi)))
       go_ret2
       exact ⟨pbb2_18, pbb2_11⟩
     ·rw [if_neg c8] at H; exact absurd H (by simp)
    ·rw [if_neg c7] at H; have c7b0 := decide_eq_false c7; clear c7; obtain ⟨t105, A150, H⟩ := bnd H; have A15 := Aside0.mk A150; clear A150
     by_cases c16 : t105 = true
     ·subst c16; rw [if_pos rfl] at H; simp only [Option.some.injEq, Prod.mk.injEq] at H; obtain ⟨rfl, rfl⟩ := H; obtain ⟨hcz17_0, hcz17_1, hcz17_2, hcz17_3, hcz17_4, hcz17_5, hcz17_6, hcz17_7, hcz17_8⟩ := cz9 BK101.out; obtain ⟨hfz17_0, hfz17_1, hfz17_2, hfz17_3, hfz17_4, hfz17_5, hfz17_6, hfz17_7, hfz17_8⟩ := fz9 BK101.out
      go_wp2_with (first | ((with_reducible refine gate_callee (f := 24) rfl ?_); refine goesL_ (some 31) rfl rfl Tryd.func24 (by kernel_rfl) rfl #[.slice A0_8 l0_8.length c0_8] rfl pbb2_5 ?_; (with_reducible refine (F24.calls k1 _ _ l0_8 true _ pbb6_6 (by exact HC0_8.out) A15.out).mono ?_); rintro e w18 ⟨rfl, hb⟩; refine ⟨_, rfl, ?_⟩; replace BK101 := Aside0.mk (blk_below (g := gb101) (o := .cells #[.int .i64 a0_0, .string a0_1, .int .i64 a0_2, .int .i64 a0_3, .int .i64 a0_4, .string a0_5, .string a0_6, .int .i64 a0_7, .slice A0_8 l0_8.length c0_8] 33 (0, 0)) pbb2_12 hb); replace HB := Aside0.mk (below_step pbb2_11 hb); (try clear hb); (try clear hb2); (try clear hk); (try clear hi)))
      go_ret2
      exact ⟨pbb2_18, pbb2_11⟩
     ·replace c16 := Bool.eq_false_iff.mpr c16; subst c16; rw [if_neg (show ¬ (false = true) by decide)] at H; simp only [Option.some.injEq, Prod.mk.injEq] at H; obtain ⟨rfl, rfl⟩ := H; obtain ⟨hcz19_0, hcz19_1, hcz19_2, hcz19_3, hcz19_4, hcz19_5, hcz19_6, hcz19_7, hcz19_8⟩ := cz9 BK101.out; obtain ⟨hfz19_0, hfz19_1, hfz19_2, hfz19_3, hfz19_4, hfz19_5, hfz19_6, hfz19_7, hfz19_8⟩ := fz9 BK101.out
      go_wp2_with (first | ((with_reducible refine gate_callee (f := 24) rfl ?_); refine goesL_ (some 31) rfl rfl Tryd.func24 (by kernel_rfl) rfl #[.slice A0_8 l0_8.length c0_8] rfl pbb2_5 ?_; (with_reducible refine (F24.calls k1 _ _ l0_8 false _ pbb6_6 (by exact HC0_8.out) A15.out).mono ?_); rintro e w20 ⟨rfl, hb⟩; refine ⟨_, rfl, ?_⟩; replace BK101 := Aside0.mk (blk_below (g := gb101) (o := .cells #[.int .i64 a0_0, .string a0_1, .int .i64 a0_2, .int .i64 a0_3, .int .i64 a0_4, .string a0_5, .string a0_6, .int .i64 a0_7, .slice A0_8 l0_8.length c0_8] 33 (0, 0)) pbb2_12 hb); replace HB := Aside0.mk (below_step pbb2_11 hb); (try clear hb); (try clear hb2); (try clear hk); (try clear hi)))
      go_ret2
      exact ⟨pbb2_18, pbb2_11⟩
 ·rw [if_neg c3] at H; have c3b0 := nF_ c3; have c3b1 := nT_ c3; simp only [Option.some.injEq, Prod.mk.injEq] at H; obtain ⟨rfl, rfl⟩ := H; go_enter Tryd.func17, Tryd.ntmps17
  go_wp2_with (first | ((with_reducible refine gate_dst (N := 1) rfl ?_); refine box_event ?hg (N := 1) ?hd (cs := #[.int .i64 a0_0, .string a0_1, .int .i64 a0_2, .int .i64 a0_3, .int .i64 a0_4, .string a0_5, .string a0_6, .int .i64 a0_7, .slice A0_8 l0_8.length c0_8]) (t := 33) ?hr ?_; (case hd => rfl); (case hg => rfl); (case hr => first | (go_simp; done) | (go_simp; rfl)); intro gb101 hg w21 hbox hb; have BK101 := Aside0.mk (hbox); have GW101 := Aside0.mk ((pbb2_8 : w.heap.size ≤ gb101)); have GE101 := Aside0.mk ((pbb2_8 : w.heap.size ≤ gb101)); replace HB := Aside0.mk (below_step pbb2_9 hb); clear hb hbox hg; obtain ⟨hcz22_0, hcz22_1, hcz22_2, hcz22_3, hcz22_4, hcz22_5, hcz22_6, hcz22_7, hcz22_8⟩ := cz9 BK101.out; obtain ⟨hfz22_0, hfz22_1, hfz22_2, hfz22_3, hfz22_4, hfz22_5, hfz22_6, hfz22_7, hfz22_8⟩ := fz9 BK101.out) | ((with_reducible refine gate_callee (f := 44) rfl ?_); refine goesL_ (some 8) rfl rfl Tryd.func44 (by kernel_rfl) rfl #[.agg #[.int .i64 a0_0, .string a0_1, .int .i64 a0_2, .int .i64 a0_3, .int .i64 a0_4, .string a0_5, .string a0_6, .int .i64 a0_7, .slice A0_8 l0_8.length c0_8]] rfl pbb2_5 ?_; (with_reducible refine (F44.calls k a0_0 a0_1 a0_2 a0_3 a0_4 a0_5 a0_6 a0_7 _ _ l0_8 t102 _ pbb6_6 (by exact HC0_8.out) A2.out).mono ?_); rintro e w23 ⟨rfl, hb⟩; refine ⟨_, rfl, ?_⟩; replace BK101 := Aside0.mk (blk_below (g := gb101) (o := .cells #[.int .i64 a0_0, .string a0_1, .int .i64 a0_2, .int .i64 a0_3, .int .i64 a0_4, .string a0_5, .string a0_6, .int .i64 a0_7, .slice A0_8 l0_8.length c0_8] 33 (0, 0)) pbb2_12 hb); replace HB := Aside0.mk (below_step pbb2_11 hb); (try clear hb); (try clear hb2); (try clear hk); (try clear hi)))
  go_ret2
  exact ⟨pbb2_18, pbb2_11⟩
end Go.Proofs.YtjeecehhcajfaaaDoor.M
end
