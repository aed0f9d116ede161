/- The law of the entries, walked and shown. Part 1 of 1 of what is the claim's own. -/
import Derived.Test.YtjeecehhcajfaaaDoorQBB2
import Derived.Laws.Cover1
import Derived.Test.YtjeecehhcajfaaaDoorQBB5
import Derived.Test.YtjeecehhcajfaaaDoorQBB6
import Derived.Test.YtjeecehhcajfaaaDoorQBB8
import Derived.Test.YtjeecehhcajfaaaDoorQBB4
import Derived.Test.YtjeecehhcajfaaaDoorQBB9
import Derived.Test.YtjeecehhcajfaaaDoorRows
import Derived.Test.YtjeecehhcajfaaaDoorQBB1
import Derived.ProofKit
import Derived.LaidMore
import Derived.OpenShut
import Derived.Stop.Joined
import Derived.WalkKit
import Derived.ShutString
import Derived.ChangeOld
import Derived.Below
import Derived.SizedLaws
import Derived.Test.YtjeecehhcajfaaaDoorCards
import Derived.Test.YtjeecehhcajfaaaDoorTie
import Derived.SevenTiedAt
namespace Go.Proofs.YtjeecehhcajfaaaDoor.M
theorem pli1_0 {p : Prop} (h : p := by (try simp only [List.map_toArray, List.map_cons, List.map_nil]); first | done | rfl) : p := h
end Go.Proofs.YtjeecehhcajfaaaDoor.M
section
namespace Go.Proofs.YtjeecehhcajfaaaDoor.M
open Go.RowKit Go.Proofs.YtjeecehhcajfaaaDoorW.PrintWords Go.Proofs.YtjeecehhcajfaaaDoorW.PrintLast Go.Proofs.YtjeecehhcajfaaaDoorW.PrintMore
attribute [local go_sem] max2_int min2_int max_two min_two max_three min_three max_four min_four
set_option linter.unusedVariables false
set_option linter.unusedSimpArgs false
def F39.f (k : Nat) (a0 : ByteArray) : Option (Bool) := if a0.toList = ([] : List UInt8) then (some true) else ((F38.f k a0).bind fun t101 => (some t101))
set_option maxHeartbeats 8000000 in
set_option maxRecDepth 100000 in
theorem F39.calls (k : Nat) (a0 : ByteArray) (r : Bool) (w : World) (h : F39.f k a0 = some r) :
    Calls Tryd.prog 39 #[.string a0] w fun e w' => e = .returned (.bool r) ∧ Drawn0 w w' := by
 unfold F39.f at h
 have H := h; clear h
 by_cases c2 : a0.toList = ([] : List UInt8)
 ·rw [if_pos c2] at H; have c2b0 := bT_ c2; have c2b1 := bF_ c2; clear c2; obtain rfl := Option.some.inj H; go_enter Tryd.func39, Tryd.ntmps39
  go_wp2
  go_ret
  exact ⟨pbb2_3, pbb2_4⟩
 ·rw [if_neg c2] at H; have c2b0 := nF_ c2; have c2b1 := nT_ c2; obtain ⟨t101, A30, H⟩ := bnd H; have A3 := Aside0.mk A30; clear A30; obtain rfl := Option.some.inj H; go_enter Tryd.func39, Tryd.ntmps39
  go_wp2_with (first | (go_at_call 38; (with_reducible refine (F38.calls k a0 t101 _ A3.out).mono ?_); rintro e w' ⟨rfl, ⟨nd, rfl⟩⟩))
  go_ret
  exact ⟨pbb2_3, pbb2_4⟩
def F40.l0 : Nat → ByteArray → Int → Option (Bool)
  | 0, _, _ => none
  | k + 1, x0, x3 => if x3 < 3 then (if 0 ≤ x3 then (if x3 < (x0.size : Int) then (if (bt x0 x3) < 65 then (some false) else (if (bt x0 x3) > 90 then (some false) else (F40.l0 k x0 (wrap64 (x3 + 1))))) else (none)) else (none)) else (some true)
def F40.f (k : Nat) (a0 : ByteArray) : Option (Bool) := if (a0.size : Int) = 3 then (F40.l0 k a0 0) else (some false)
set_option maxHeartbeats 8000000 in
set_option maxRecDepth 100000 in
theorem F40.calls (k : Nat) (a0 : ByteArray) (r : Bool) (w : World) (h : F40.f k a0 = some r) :
    Calls Tryd.prog 40 #[.string a0] w fun e w' => e = .returned (.bool r) ∧ Drawn0 w w' := by
 unfold F40.f at h
 have H := h; clear h
 by_cases c2 : (a0.size : Int) = 3
 ·rw [if_pos c2] at H; have c2b0 := bT_ c2; have c2b1 := bF_ c2; clear c2; have H' := Aside0.mk H; clear H; go_enter Tryd.func40, Tryd.ntmps40
  go_wp2
  go_loopg [3] k (fun kq v3 w' => ∃ (x3_1 : Int), v3 = .int .i64 x3_1 ∧ Aside0 (F40.l0 kq a0 x3_1 = some r) ∧ Aside0 (kq ≤ k) ∧ Drawn0 w w')
  case atStart => exact ⟨(0), pbb2_3, H', ⟨Nat.le_refl _⟩, pbb2_4⟩
  case round =>
   clear H'; (try clear c2); (try clear c2b0); (try clear c2b1); (try clear p2); obtain ⟨x3_1, rfl, HA, HK1, ⟨m1, rfl⟩⟩ := hrel
   cases gk with
   | zero => exact absurd HA.out (by simp [F40.l0])
   | succ k1 =>
    have H := HA.out; clear HA; simp only [F40.l0] at H
    by_cases c3 : x3_1 < 3
    ·rw [if_pos c3] at H; have c3b0 := decide_eq_true c3; clear c3
     by_cases c4 : 0 ≤ x3_1
     ·rw [if_pos c4] at H; have c4b0 := decide_eq_true c4; clear c4
      by_cases c5 : x3_1 < (a0.size : Int)
      ·rw [if_pos c5] at H; have c5b0 := decide_eq_true c5; clear c5
       by_cases c7 : (bt a0 x3_1) < 65
       ·rw [if_pos c7] at H; have c7b0 := decide_eq_true c7; clear c7; obtain rfl := Option.some.inj H; have p6 : 0 ≤ (x3_1 : Int) := of_decide_eq_true pbb2_6; have q6 : x3_1 < (a0.size : Int) := of_decide_eq_true pbb2_6; have hx6 := bt_at a0 x3_1; replace p6 := eq_true p6; replace q6 := eq_true q6
        go_wp2
        go_ret
        exact ⟨pbb2_3, pbb2_4⟩
       ·rw [if_neg c7] at H; have c7b0 := decide_eq_false c7; clear c7
        by_cases c9 : (bt a0 x3_1) > 90
        ·rw [if_pos c9] at H; have c9b0 : decide (90 < (bt a0 x3_1)) = true := decide_eq_true c9; clear c9; obtain rfl := Option.some.inj H; have p6 : 0 ≤ (x3_1 : Int) := of_decide_eq_true pbb2_6; have q6 : x3_1 < (a0.size : Int) := of_decide_eq_true pbb2_6; have hx6 := bt_at a0 x3_1; replace p6 := eq_true p6; replace q6 := eq_true q6; have p8 : 0 ≤ (x3_1 : Int) := of_decide_eq_true pbb2_6; have q8 : x3_1 < (a0.size : Int) := of_decide_eq_true pbb2_6; have hx8 := bt_at a0 x3_1; replace p8 := eq_true p8; replace q8 := eq_true q8
         go_wp2
         go_ret
         exact ⟨pbb2_3, pbb2_4⟩
        ·rw [if_neg c9] at H; have c9b0 : decide (90 < (bt a0 x3_1)) = false := decide_eq_false c9; clear c9; have H' := Aside0.mk H; clear H; have p6 : 0 ≤ (x3_1 : Int) := of_decide_eq_true pbb2_6; have q6 : x3_1 < (a0.size : Int) := of_decide_eq_true pbb2_6; have hx6 := bt_at a0 x3_1; replace p6 := eq_true p6; replace q6 := eq_true q6; have p8 : 0 ≤ (x3_1 : Int) := of_decide_eq_true pbb2_6; have q8 : x3_1 < (a0.size : Int) := of_decide_eq_true pbb2_6; have hx8 := bt_at a0 x3_1; replace p8 := eq_true p8; replace q8 := eq_true q8
         go_wp2
         go_roundg k1
         case measure => have := HK1.out; omega
         case rel => exact ⟨(wrap64 (x3_1 + 1)), pbb2_3, H', ⟨pbb2_7⟩, pbb2_4⟩
      ·rw [if_neg c5] at H; exact absurd H (by simp)
     ·rw [if_neg c4] at H; exact absurd H (by simp)
    ·rw [if_neg c3] at H; have c3b0 := decide_eq_false c3; clear c3; obtain rfl := Option.some.inj H
     go_wp2
     go_ret
     exact ⟨pbb2_3, pbb2_4⟩
 ·rw [if_neg c2] at H; have c2b0 := nF_ c2; have c2b1 := nT_ c2; obtain rfl := Option.some.inj H; go_enter Tryd.func40, Tryd.ntmps40
  go_wp2
  go_ret
  exact ⟨pbb2_3, pbb2_4⟩
def F41.f (a0 : Int) (a1 : Int) : Option (Bool) := if a0 ≥ (wrap64 (-a1)) then (some (decide (a0 ≤ a1))) else (some false)
set_option maxHeartbeats 8000000 in
set_option maxRecDepth 100000 in
theorem F41.calls (a0 : Int) (a1 : Int) (r : Bool) (w : World) (h : F41.f a0 a1 = some r) :
    Calls Tryd.prog 41 #[.int .i64 a0, .int .i64 a1] w fun e w' => e = .returned (.bool r) ∧ Drawn0 w w' := by
 unfold F41.f at h
 have H := h; clear h
 by_cases c3 : a0 ≥ (wrap64 (-a1))
 ·rw [if_pos c3] at H; have c3b0 : decide ((wrap64 (-a1)) ≤ a0) = true := decide_eq_true c3; clear c3; obtain rfl := Option.some.inj H; go_enter Tryd.func41, Tryd.ntmps41
  go_wp2
  go_ret
  exact ⟨pbb2_3, pbb2_4⟩
 ·rw [if_neg c3] at H; have c3b0 : decide ((wrap64 (-a1)) ≤ a0) = false := decide_eq_false c3; clear c3; obtain rfl := Option.some.inj H; go_enter Tryd.func41, Tryd.ntmps41
  go_wp2
  go_ret
  exact ⟨pbb2_3, pbb2_4⟩
def F69.f (k : Nat) (a0_0 : ByteArray) (a0_1 : ByteArray) : Option (Bool) := (F38.f k a0_0).bind fun t102 => (if t102 = true then ((F38.f k a0_1).bind fun t103 => (some t103)) else (some false))
set_option maxHeartbeats 8000000 in
set_option maxRecDepth 100000 in
theorem F69.calls (k : Nat) (a0_0 : ByteArray) (a0_1 : ByteArray) (r : Bool) (w : World) (h : F69.f k a0_0 a0_1 = some r) :
    Calls Tryd.prog 69 #[.agg #[.string a0_0, .string a0_1]] w fun e w' => e = .returned (.bool r) ∧ Below w.heap.size w w' := by
 have hu101 := Tryd.underlying101; have hu9 := Tryd.underlying9; have HB := Aside0.mk (Below.refl w.heap.size w)
 unfold F69.f at h
 have H := h; clear h; obtain ⟨t102, A20, H⟩ := bnd H; have A2 := Aside0.mk A20; clear A20
 by_cases c3 : t102 = true
 ·subst c3; rw [if_pos rfl] at H; obtain ⟨t103, A40, H⟩ := bnd H; have A4 := Aside0.mk A40; clear A40; obtain rfl := Option.some.inj H; go_enter Tryd.func69, Tryd.ntmps69
  go_wp2_with (first | ((with_reducible refine gate_dst (N := 1) rfl ?_); refine box_event ?hg (N := 1) ?hd (cs := #[.string a0_0, .string a0_1]) (t := 101) ?hr ?_; (case hd => rfl); (case hg => rfl); (case hr => first | (go_simp; done) | (go_simp; rfl)); intro gb101 hg w5 hbox hb; have BK101 := Aside0.mk (hbox); have GW101 := Aside0.mk ((pbb2_8 : w.heap.size ≤ gb101)); have GE101 := Aside0.mk ((pbb2_8 : w.heap.size ≤ gb101)); replace HB := Aside0.mk (below_step pbb2_9 hb); clear hb hbox hg; obtain ⟨hcz6_0, hcz6_1⟩ := cz2 BK101.out; obtain ⟨hfz6_0, hfz6_1⟩ := fz2 BK101.out) | ((with_reducible refine gate_callee (f := 38) rfl ?_); refine goesL_ (some 5) rfl rfl Tryd.func38 (by kernel_rfl) rfl #[.string a0_0] rfl pbb2_5 ?_; (with_reducible refine (F38.calls k a0_0 true _ A2.out).mono ?_); rintro e w' ⟨rfl, ⟨nd, rfl⟩⟩; refine ⟨_, rfl, ?_⟩) | (go_at_call 38; (with_reducible refine (F38.calls k a0_1 t103 _ A4.out).mono ?_); rintro e w' ⟨rfl, ⟨nd, rfl⟩⟩))
  go_ret
  exact ⟨pbb2_18, pbb2_11⟩
 ·replace c3 := Bool.eq_false_iff.mpr c3; subst c3; rw [if_neg (show ¬ (false = true) by decide)] at H; obtain rfl := Option.some.inj H; go_enter Tryd.func69, Tryd.ntmps69
  go_wp2_with (first | ((with_reducible refine gate_dst (N := 1) rfl ?_); refine box_event ?hg (N := 1) ?hd (cs := #[.string a0_0, .string a0_1]) (t := 101) ?hr ?_; (case hd => rfl); (case hg => rfl); (case hr => first | (go_simp; done) | (go_simp; rfl)); intro gb101 hg w7 hbox hb; have BK101 := Aside0.mk (hbox); have GW101 := Aside0.mk ((pbb2_8 : w.heap.size ≤ gb101)); have GE101 := Aside0.mk ((pbb2_8 : w.heap.size ≤ gb101)); replace HB := Aside0.mk (below_step pbb2_9 hb); clear hb hbox hg; obtain ⟨hcz8_0, hcz8_1⟩ := cz2 BK101.out; obtain ⟨hfz8_0, hfz8_1⟩ := fz2 BK101.out) | ((with_reducible refine gate_callee (f := 38) rfl ?_); refine goesL_ (some 5) rfl rfl Tryd.func38 (by kernel_rfl) rfl #[.string a0_0] rfl pbb2_5 ?_; (with_reducible refine (F38.calls k a0_0 false _ A2.out).mono ?_); rintro e w' ⟨rfl, ⟨nd, rfl⟩⟩; refine ⟨_, rfl, ?_⟩))
  go_ret
  exact ⟨pbb2_18, pbb2_11⟩
def F42.l0 : Nat → List (S101) → Int → Option (Bool)
  | 0, _, _ => none
  | k + 1, x0, x3 => if x3 < (x0.length : Int) then (if 0 ≤ x3 then ((F69.f k ((rd_T101 x0 x3).f0) ((rd_T101 x0 x3).f1)).bind fun t102 => (if t102 = true then (if x3 > 0 then (if 0 ≤ (wrap64 (x3 - 1)) then (if (wrap64 (x3 - 1)) < (x0.length : Int) then (if ((Op.bytesLess (((rd_T101 x0 (wrap64 (x3 - 1))).f0).toList) (((rd_T101 x0 x3).f0).toList)) = true) then (F42.l0 k x0 (wrap64 (x3 + 1))) else (some false)) else (none)) else (none)) else (F42.l0 k x0 (wrap64 (x3 + 1)))) else (some false))) else (none)) else (some (decide ((x0.length : Int) ≤ 6)))
def F42.f (k : Nat) (l0 : List (S101)) : Option (Bool) := F42.l0 k l0 0
def F42.T4 : Bool × List (List Nat × List Nat) := (true, [([], []), ([], []), ([0, 1], [0, 1]), ([2], [2]), ([3], [3]), ([4], [4]), ([5, 4], [5]), ([6], [6]), ([7, 6], [6, 7]), ([8, 6, 6], [6, 8]), ([9], [9]), ([9], [9]), ([10, 11, 9], [9, 10, 11]), ([12, 9], [9, 12]), ([13, 9], [9, 13]), ([9], [9]), ([9], [9]), ([16, 9], [9, 16]), ([15, 17, 9], [9, 15, 17]), ([18, 9], [9, 18]), ([19, 9], [9, 19]), ([14, 20, 9], [9, 14, 20]), ([9, 21, 6], [6, 9, 21]), ([6, 22], [6, 22])])
def F42.B4 : List Nat := [0, 0, 3, 7, 15, 31, 63, 127, 255, 511, 1023, 1023, 4095, 8191, 16383, 1023, 1023, 66559, 230399, 492543, 1016831, 2097151, 4194303, 8388607]
theorem F42.tab4 : rtab .any (opsOf Tryd.f42 4) = F42.T4 := by kernel_rfl
theorem F42.bits4 : waitsOk F42.T4.2 F42.B4 = true := by kernel_rfl
set_option maxHeartbeats 8000000 in
set_option maxRecDepth 100000 in
theorem F42.calls (k : Nat) (A0 : Option Addr) (c0 : Nat) (l0 : List (S101)) (r : Bool) (w : World) (hr0 : Kd.C k101 w A0 l0.length l0) (hc0 : l0.length ≤ c0) (h : F42.f k l0 = some r) :
    Calls Tryd.prog 42 #[.slice A0 l0.length c0] w fun e w' => e = .returned (.bool r) ∧ Below w.heap.size w w' := by
 have hu101 := Tryd.underlying101; have hu9 := Tryd.underlying9; have HR0 := Aside0.mk hr0; have HC0 := Aside0.mk hc0; clear hr0 hc0; have HB := Aside0.mk (Below.refl w.heap.size w)
 unfold F42.f at h
 have H := h; clear h; have H' := Aside0.mk H; clear H; go_enter Tryd.func42, Tryd.ntmps42
 go_wp2
 go_loopg [3] k (fun kq v3 w' => ∃ (x3_1 : Int), v3 = .int .i64 x3_1 ∧ Aside0 (F42.l0 kq l0 x3_1 = some r) ∧ Aside0 (kq ≤ k) ∧ Aside0 (Below w.heap.size w w'))
 case atStart => exact ⟨(0), pbb2_3, H', ⟨Nat.le_refl _⟩, ⟨pbb2_9⟩⟩
 case round =>
  clear H'; obtain ⟨x3_1, rfl, HA, HK1, HB⟩ := hrel
  cases gk with
  | zero => exact absurd HA.out (by simp [F42.l0])
  | succ k1 =>
   have H := HA.out; clear HA; simp only [F42.l0] at H
   by_cases c2 : x3_1 < (l0.length : Int)
   ·rw [if_pos c2] at H; have c2b0 := decide_eq_true c2; clear c2
    by_cases c3 : 0 ≤ x3_1
    ·rw [if_pos c3] at H; have c3b0 := decide_eq_true c3; clear c3; obtain ⟨t102, A40, H⟩ := bnd H; have A4 := Aside0.mk A40; clear A40
     by_cases c5 : t102 = true
     ·subst c5; rw [if_pos rfl] at H
      by_cases c6 : x3_1 > 0
      ·rw [if_pos c6] at H; have c6b0 : decide (0 < x3_1) = true := decide_eq_true c6; clear c6; obtain ⟨ji7, hji7⟩ : ∃ j_ : Int, (wrap64 (x3_1 - 1)) = j_ := ⟨_, rfl⟩; (first | rw [hji7] at H | simp only [hji7] at H); (try rw [hji7] at A4); have hji7w : (IntKind.i64.wrap (x3_1 - 1)) = ji7 := (i64_w _).trans hji7
       by_cases c8 : 0 ≤ (ji7)
       ·rw [if_pos c8] at H; have c8b0 := decide_eq_true c8; clear c8
        by_cases c9 : (ji7) < (l0.length : Int)
        ·rw [if_pos c9] at H; have c9b0 := decide_eq_true c9; clear c9
         by_cases c10 : ((Op.bytesLess (((rd_T101 l0 (ji7)).f0).toList) (((rd_T101 l0 x3_1).f0).toList)) = true)
         ·rw [if_pos c10] at H; have c10b0 : (Op.bytesLess (((rd_T101 l0 (ji7)).f0).toList) (((rd_T101 l0 x3_1).f0).toList)) = true := c10; have c10z : (Op.bytesLess (((rd_T101 l0 x3_1).f0).toList) (((rd_T101 l0 (ji7)).f0).toList) || (((rd_T101 l0 x3_1).f0).toList) == (((rd_T101 l0 (ji7)).f0).toList)) = false := by rw [bytesLess_or, c10b0]; rfl
          clear c10; have H' := Aside0.mk H; clear H; (try go_wp2); replace HB := Aside0.mk (below_drew1 HB.out); have p101 : 0 ≤ (x3_1 : Int) := of_decide_eq_true pbb2_6; have q101 : x3_1 < (l0.length : Int) := of_decide_eq_true pbb2_6; obtain ⟨ad101, e101, hx101_0, hx101_1⟩ := at_T101 HR0.out x3_1 p101 q101; have hw101_1 := hx101_1; have hw101_0 := hx101_0
          cases e101
          replace hx101_0 := (HB.out.cell (World.block_lt_of_cell? w _ hx101_0)).trans hx101_0; replace hx101_1 := (HB.out.cell (World.block_lt_of_cell? w _ hx101_1)).trans hx101_1; replace p101 := eq_true p101; replace q101 := eq_true q101; have p103 : 0 ≤ (x3_1 : Int) := of_decide_eq_true pbb2_6; have q103 : x3_1 < (l0.length : Int) := of_decide_eq_true pbb2_6; obtain ⟨ad103, e103, hx103_0, hx103_1⟩ := at_T101 HR0.out x3_1 p103 q103; have hw103_1 := hx103_1; have hw103_0 := hx103_0; obtain rfl : ad101 = ad103 := (by injection e103); replace hx103_0 := (HB.out.cell (World.block_lt_of_cell? w _ hx103_0)).trans hx103_0; replace hx103_1 := (HB.out.cell (World.block_lt_of_cell? w _ hx103_1)).trans hx103_1; replace p103 := eq_true p103; replace q103 := eq_true q103; have p104 : 0 ≤ ((ji7) : Int) := of_decide_eq_true pbb2_6; have q104 : (ji7) < (l0.length : Int) := of_decide_eq_true pbb2_6; obtain ⟨ad104, e104, hx104_0, hx104_1⟩ := at_T101 HR0.out (ji7) p104 q104; have hw104_1 := hx104_1; have hw104_0 := hx104_0; obtain rfl : ad101 = ad104 := (by injection e104); replace hx104_0 := (HB.out.cell (World.block_lt_of_cell? w _ hx104_0)).trans hx104_0; replace hx104_1 := (HB.out.cell (World.block_lt_of_cell? w _ hx104_1)).trans hx104_1; replace p104 := eq_true p104; replace q104 := eq_true q104; refine start_ (n := 24) (S := fun w' => w'.cell? (ad101.add ((x3_1).toNat * 2)) = some (.string ((rd_T101 l0 x3_1).f0)) ∧ w'.cell? ⟨(ad101.add ((x3_1).toNat * 2)).block, (ad101.add ((x3_1).toNat * 2)).off + 1, none⟩ = some (.string ((rd_T101 l0 x3_1).f1)) ∧ w'.cell? (ad101.add ((x3_1).toNat * 2)) = some (.string ((rd_T101 l0 x3_1).f0)) ∧ w'.cell? ⟨(ad101.add ((x3_1).toNat * 2)).block, (ad101.add ((x3_1).toNat * 2)).off + 1, none⟩ = some (.string ((rd_T101 l0 x3_1).f1)) ∧ w'.cell? (ad101.add (((ji7)).toNat * 2)) = some (.string ((rd_T101 l0 (ji7)).f0)) ∧ w'.cell? ⟨(ad101.add (((ji7)).toNat * 2)).block, (ad101.add (((ji7)).toNat * 2)).off + 1, none⟩ = some (.string ((rd_T101 l0 (ji7)).f1))) (ds := []) (bq 24 0) (by kernel_rfl) rfl rfl ⟨((HB.out.cell (World.block_lt_of_cell? w _ hw101_0)).trans hw101_0), ((HB.out.cell (World.block_lt_of_cell? w _ hw101_1)).trans hw101_1), ((HB.out.cell (World.block_lt_of_cell? w _ hw103_0)).trans hw103_0), ((HB.out.cell (World.block_lt_of_cell? w _ hw103_1)).trans hw103_1), ((HB.out.cell (World.block_lt_of_cell? w _ hw104_0)).trans hw104_0), ((HB.out.cell (World.block_lt_of_cell? w _ hw104_1)).trans hw104_1)⟩ (fun hHeld => ?_); refine with_tabW F42.tab4 F42.bits4 (fun HT_ HW_ => ?_); generalize wr.drew = w11 at HB hx101_0 hx101_1 hx103_0 hx103_1 hx104_0 hx104_1 hHeld ⊢; refine pv_ 0 10 (bq 24 1) HT_ ?_; refine pv_ 1 11 (bq 24 3) HT_ ?_; refine pv_ 2 12 (bq 24 7) HT_ ?_; refine take_ (i := 3) (N := some 13) (v := ?_) (a' := ?_) (bq 24 15) rfl rfl (take_ofW HT_.out HW_.out (by kernel_rfl)) (fun _ _ _ h => h) (Or.inl ⟨by rfl, ?_⟩) hHeld ?_ ?_; rotate_left
          ·rintro w' ⟨s0, s1, s2, s3, s4, s5⟩; go_simp; (with_reducible rfl)
          rotate_left
          ·exact cbb2_0
          refine one_ (i := 4) (N := some 14) (bq 24 31) rfl rfl (one_of HT_.out (by kernel_rfl)) (by decide) (fun K hK => ?_); refine goes_ Tryd.func69 (by kernel_rfl) rfl #[.agg #[.string ((rd_T101 l0 x3_1).f0), .string ((rd_T101 l0 x3_1).f1)]] (by rfl) rfl rfl pbb2_5 ?_; (with_reducible refine (F69.calls k1 ((rd_T101 l0 x3_1).f0) ((rd_T101 l0 x3_1).f1) true _ A4.out).mono ?_); rintro e w12 ⟨rfl, hb⟩; refine ⟨_, rfl, ?_⟩; replace HB := Aside0.mk (below_step pbb2_9 hb); (try clear hb); (try clear hb2); (try clear hk); (try clear hi); refine hK.out _ _ ⟨((HB.out.cell (World.block_lt_of_cell? w _ hw101_0)).trans hw101_0), ((HB.out.cell (World.block_lt_of_cell? w _ hw101_1)).trans hw101_1), ((HB.out.cell (World.block_lt_of_cell? w _ hw103_0)).trans hw103_0), ((HB.out.cell (World.block_lt_of_cell? w _ hw103_1)).trans hw103_1), ((HB.out.cell (World.block_lt_of_cell? w _ hw104_0)).trans hw104_0), ((HB.out.cell (World.block_lt_of_cell? w _ hw104_1)).trans hw104_1)⟩ (fun hHeld => ?_); clear hK K; refine norm_ (a' := ?_) ?_ ?_; rotate_left
          ·show Act.put _ (some 14) _ = _; simp only [Act.put, List.setIfInBounds_toArray, List.set_cons_zero, List.set_cons_succ, i64_w, i32_w]
           rfl
          refine pv_ 5 15 (bq 24 63) HT_ ?_; refine pv_ 6 16 (bq 24 127) HT_ ?_; refine pv_ 7 17 (bq 24 255) HT_ ?_; refine pv_ 8 18 (bq 24 511) HT_ ?_; refine pv_ 9 19 (bq 24 1023) HT_ ?_; refine pv_ 10 20 (bq 24 2047) HT_ ?_; refine pv_ 11 21 (bq 24 4095) HT_ ?_; refine pv_ 12 22 (bq 24 8191) HT_ ?_; refine pv_ 13 23 (bq 24 16383) HT_ ?_; refine pv_ 15 25 (bq 24 49151) HT_ ?_; refine pv_ 16 26 (bq 24 114687) HT_ ?_; refine pv_ 17 27 (bq 24 245759) HT_ ?_; refine pv_ 18 28 (bq 24 507903) HT_ ?_; refine pv_ 19 29 (bq 24 1032191) HT_ ?_; refine take_ (i := 14) (N := some 24) (v := ?_) (a' := ?_) (bq 24 1048575) rfl rfl (take_ofW HT_.out HW_.out (by kernel_rfl)) (fun _ _ _ h => h) (Or.inl ⟨by rfl, ?_⟩) hHeld ?_ ?_; rotate_left
          ·rintro w' ⟨s0, s1, s2, s3, s4, s5⟩; go_simp; (with_reducible rfl)
          rotate_left
          ·exact cbb2_0
          refine take_ (i := 20) (N := some 30) (v := ?_) (a' := ?_) (bq 24 2097151) rfl rfl (take_ofW HT_.out HW_.out (by kernel_rfl)) (fun _ _ _ h => h) (Or.inl ⟨by rfl, ?_⟩) hHeld ?_ ?_; rotate_left
          ·rintro w' ⟨s0, s1, s2, s3, s4, s5⟩; go_simp; (with_reducible rfl)
          rotate_left
          ·exact cbb2_0
          refine pv_ 21 31 (bq 24 4194303) HT_ ?_; refine pv_ 22 32 (bq 24 8388607) HT_ ?_; refine pv_ 23 33 (bq 24 16777215) HT_ ?_; refine done_ (done_of HT_.out (by kernel_rfl)) ?_; (try go_wp2)
          go_roundg k1
          case measure => have := HK1.out; omega
          case rel => exact ⟨(wrap64 (x3_1 + 1)), pbb2_3, H', ⟨pbb2_7⟩, ⟨pbb2_9⟩⟩
         ·rw [if_neg c10] at H; have c10b0 : (Op.bytesLess (((rd_T101 l0 (ji7)).f0).toList) (((rd_T101 l0 x3_1).f0).toList)) = false := by simpa using c10
          have c10z : (Op.bytesLess (((rd_T101 l0 x3_1).f0).toList) (((rd_T101 l0 (ji7)).f0).toList) || (((rd_T101 l0 x3_1).f0).toList) == (((rd_T101 l0 (ji7)).f0).toList)) = true := by rw [bytesLess_or, c10b0]; rfl
          clear c10; obtain rfl := Option.some.inj H; (try go_wp2); replace HB := Aside0.mk (below_drew1 HB.out); have p101 : 0 ≤ (x3_1 : Int) := of_decide_eq_true pbb2_6; have q101 : x3_1 < (l0.length : Int) := of_decide_eq_true pbb2_6; obtain ⟨ad101, e101, hx101_0, hx101_1⟩ := at_T101 HR0.out x3_1 p101 q101; have hw101_1 := hx101_1; have hw101_0 := hx101_0
          cases e101
          replace hx101_0 := (HB.out.cell (World.block_lt_of_cell? w _ hx101_0)).trans hx101_0; replace hx101_1 := (HB.out.cell (World.block_lt_of_cell? w _ hx101_1)).trans hx101_1; replace p101 := eq_true p101; replace q101 := eq_true q101; have p103 : 0 ≤ (x3_1 : Int) := of_decide_eq_true pbb2_6; have q103 : x3_1 < (l0.length : Int) := of_decide_eq_true pbb2_6; obtain ⟨ad103, e103, hx103_0, hx103_1⟩ := at_T101 HR0.out x3_1 p103 q103; have hw103_1 := hx103_1; have hw103_0 := hx103_0; obtain rfl : ad101 = ad103 := (by injection e103); replace hx103_0 := (HB.out.cell (World.block_lt_of_cell? w _ hx103_0)).trans hx103_0; replace hx103_1 := (HB.out.cell (World.block_lt_of_cell? w _ hx103_1)).trans hx103_1; replace p103 := eq_true p103; replace q103 := eq_true q103; have p104 : 0 ≤ ((ji7) : Int) := of_decide_eq_true pbb2_6; have q104 : (ji7) < (l0.length : Int) := of_decide_eq_true pbb2_6; obtain ⟨ad104, e104, hx104_0, hx104_1⟩ := at_T101 HR0.out (ji7) p104 q104; have hw104_1 := hx104_1; have hw104_0 := hx104_0; obtain rfl : ad101 = ad104 := (by injection e104); replace hx104_0 := (HB.out.cell (World.block_lt_of_cell? w _ hx104_0)).trans hx104_0; replace hx104_1 := (HB.out.cell (World.block_lt_of_cell? w _ hx104_1)).trans hx104_1; replace p104 := eq_true p104; replace q104 := eq_true q104; refine start_ (n := 24) (S := fun w' => w'.cell? (ad101.add ((x3_1).toNat * 2)) = some (.string ((rd_T101 l0 x3_1).f0)) ∧ w'.cell? ⟨(ad101.add ((x3_1).toNat * 2)).block, (ad101.add ((x3_1).toNat * 2)).off + 1, none⟩ = some (.string ((rd_T101 l0 x3_1).f1)) ∧ w'.cell? (ad101.add ((x3_1).toNat * 2)) = some (.string ((rd_T101 l0 x3_1).f0)) ∧ w'.cell? ⟨(ad101.add ((x3_1).toNat * 2)).block, (ad101.add ((x3_1).toNat * 2)).off + 1, none⟩ = some (.string ((rd_T101 l0 x3_1).f1)) ∧ w'.cell? (ad101.add (((ji7)).toNat * 2)) = some (.string ((rd_T101 l0 (ji7)).f0)) ∧ w'.cell? ⟨(ad101.add (((ji7)).toNat * 2)).block, (ad101.add (((ji7)).toNat * 2)).off + 1, none⟩ = some (.string ((rd_T101 l0 (ji7)).f1))) (ds := []) (bq 24 0) (by kernel_rfl) rfl rfl ⟨((HB.out.cell (World.block_lt_of_cell? w _ hw101_0)).trans hw101_0), ((HB.out.cell (World.block_lt_of_cell? w _ hw101_1)).trans hw101_1), ((HB.out.cell (World.block_lt_of_cell? w _ hw103_0)).trans hw103_0), ((HB.out.cell (World.block_lt_of_cell? w _ hw103_1)).trans hw103_1), ((HB.out.cell (World.block_lt_of_cell? w _ hw104_0)).trans hw104_0), ((HB.out.cell (World.block_lt_of_cell? w _ hw104_1)).trans hw104_1)⟩ (fun hHeld => ?_); refine with_tabW F42.tab4 F42.bits4 (fun HT_ HW_ => ?_); generalize wr.drew = w13 at HB hx101_0 hx101_1 hx103_0 hx103_1 hx104_0 hx104_1 hHeld ⊢; refine pv_ 0 10 (bq 24 1) HT_ ?_; refine pv_ 1 11 (bq 24 3) HT_ ?_; refine pv_ 2 12 (bq 24 7) HT_ ?_; refine take_ (i := 3) (N := some 13) (v := ?_) (a' := ?_) (bq 24 15) rfl rfl (take_ofW HT_.out HW_.out (by kernel_rfl)) (fun _ _ _ h => h) (Or.inl ⟨by rfl, ?_⟩) hHeld ?_ ?_; rotate_left
          ·rintro w' ⟨s0, s1, s2, s3, s4, s5⟩; go_simp; (with_reducible rfl)
          rotate_left
          ·exact cbb2_0
          refine one_ (i := 4) (N := some 14) (bq 24 31) rfl rfl (one_of HT_.out (by kernel_rfl)) (by decide) (fun K hK => ?_); refine goes_ Tryd.func69 (by kernel_rfl) rfl #[.agg #[.string ((rd_T101 l0 x3_1).f0), .string ((rd_T101 l0 x3_1).f1)]] (by rfl) rfl rfl pbb2_5 ?_; (with_reducible refine (F69.calls k1 ((rd_T101 l0 x3_1).f0) ((rd_T101 l0 x3_1).f1) true _ A4.out).mono ?_); rintro e w14 ⟨rfl, hb⟩; refine ⟨_, rfl, ?_⟩; replace HB := Aside0.mk (below_step pbb2_9 hb); (try clear hb); (try clear hb2); (try clear hk); (try clear hi); refine hK.out _ _ ⟨((HB.out.cell (World.block_lt_of_cell? w _ hw101_0)).trans hw101_0), ((HB.out.cell (World.block_lt_of_cell? w _ hw101_1)).trans hw101_1), ((HB.out.cell (World.block_lt_of_cell? w _ hw103_0)).trans hw103_0), ((HB.out.cell (World.block_lt_of_cell? w _ hw103_1)).trans hw103_1), ((HB.out.cell (World.block_lt_of_cell? w _ hw104_0)).trans hw104_0), ((HB.out.cell (World.block_lt_of_cell? w _ hw104_1)).trans hw104_1)⟩ (fun hHeld => ?_); clear hK K; refine norm_ (a' := ?_) ?_ ?_; rotate_left
          ·show Act.put _ (some 14) _ = _; simp only [Act.put, List.setIfInBounds_toArray, List.set_cons_zero, List.set_cons_succ, i64_w, i32_w]
           rfl
          refine pv_ 5 15 (bq 24 63) HT_ ?_; refine pv_ 6 16 (bq 24 127) HT_ ?_; refine pv_ 7 17 (bq 24 255) HT_ ?_; refine pv_ 8 18 (bq 24 511) HT_ ?_; refine pv_ 9 19 (bq 24 1023) HT_ ?_; refine pv_ 10 20 (bq 24 2047) HT_ ?_; refine pv_ 11 21 (bq 24 4095) HT_ ?_; refine pv_ 12 22 (bq 24 8191) HT_ ?_; refine pv_ 13 23 (bq 24 16383) HT_ ?_; refine pv_ 15 25 (bq 24 49151) HT_ ?_; refine pv_ 16 26 (bq 24 114687) HT_ ?_; refine pv_ 17 27 (bq 24 245759) HT_ ?_; refine pv_ 18 28 (bq 24 507903) HT_ ?_; refine pv_ 19 29 (bq 24 1032191) HT_ ?_; refine take_ (i := 14) (N := some 24) (v := ?_) (a' := ?_) (bq 24 1048575) rfl rfl (take_ofW HT_.out HW_.out (by kernel_rfl)) (fun _ _ _ h => h) (Or.inl ⟨by rfl, ?_⟩) hHeld ?_ ?_; rotate_left
          ·rintro w' ⟨s0, s1, s2, s3, s4, s5⟩; go_simp; (with_reducible rfl)
          rotate_left
          ·exact cbb2_0
          refine take_ (i := 20) (N := some 30) (v := ?_) (a' := ?_) (bq 24 2097151) rfl rfl (take_ofW HT_.out HW_.out (by kernel_rfl)) (fun _ _ _ h => h) (Or.inl ⟨by rfl, ?_⟩) hHeld ?_ ?_; rotate_left
          ·rintro w' ⟨s0, s1, s2, s3, s4, s5⟩; go_simp; (with_reducible rfl)
          rotate_left
          ·exact cbb2_0
          refine pv_ 21 31 (bq 24 4194303) HT_ ?_; refine pv_ 22 32 (bq 24 8388607) HT_ ?_; refine pv_ 23 33 (bq 24 16777215) HT_ ?_; refine done_ (done_of HT_.out (by kernel_rfl)) ?_; (try go_wp2)
          go_ret
          exact ⟨by first | rfl | (simp [errW_none, errW_some] <;> rfl) | (simp only [← hji7]; first | rfl | (simp [errW_none, errW_some] <;> rfl)) | (simp [*, errW_none, errW_some] <;> rfl), pbb2_9⟩
        ·rw [if_neg c9] at H; exact absurd H (by simp)
       ·rw [if_neg c8] at H; exact absurd H (by simp)
      ·rw [if_neg c6] at H; have c6b0 : decide (0 < x3_1) = false := decide_eq_false c6; clear c6; have H' := Aside0.mk H; clear H; (try go_wp2); replace HB := Aside0.mk (below_drew1 HB.out); have p101 : 0 ≤ (x3_1 : Int) := of_decide_eq_true pbb2_6; have q101 : x3_1 < (l0.length : Int) := of_decide_eq_true pbb2_6; obtain ⟨ad101, e101, hx101_0, hx101_1⟩ := at_T101 HR0.out x3_1 p101 q101; have hw101_1 := hx101_1; have hw101_0 := hx101_0
       cases e101
       replace hx101_0 := (HB.out.cell (World.block_lt_of_cell? w _ hx101_0)).trans hx101_0; replace hx101_1 := (HB.out.cell (World.block_lt_of_cell? w _ hx101_1)).trans hx101_1; replace p101 := eq_true p101; replace q101 := eq_true q101; refine start_ (n := 24) (S := fun w' => w'.cell? (ad101.add ((x3_1).toNat * 2)) = some (.string ((rd_T101 l0 x3_1).f0)) ∧ w'.cell? ⟨(ad101.add ((x3_1).toNat * 2)).block, (ad101.add ((x3_1).toNat * 2)).off + 1, none⟩ = some (.string ((rd_T101 l0 x3_1).f1))) (ds := []) (bq 24 0) (by kernel_rfl) rfl rfl ⟨((HB.out.cell (World.block_lt_of_cell? w _ hw101_0)).trans hw101_0), ((HB.out.cell (World.block_lt_of_cell? w _ hw101_1)).trans hw101_1)⟩ (fun hHeld => ?_); refine with_tabW F42.tab4 F42.bits4 (fun HT_ HW_ => ?_); generalize wr.drew = w15 at HB hx101_0 hx101_1 hHeld ⊢; refine pv_ 0 10 (bq 24 1) HT_ ?_; refine pv_ 1 11 (bq 24 3) HT_ ?_; refine pv_ 2 12 (bq 24 7) HT_ ?_; refine take_ (i := 3) (N := some 13) (v := ?_) (a' := ?_) (bq 24 15) rfl rfl (take_ofW HT_.out HW_.out (by kernel_rfl)) (fun _ _ _ h => h) (Or.inl ⟨by rfl, ?_⟩) hHeld ?_ ?_; rotate_left
       ·rintro w' ⟨s0, s1⟩; go_simp; (with_reducible rfl)
       rotate_left
       ·exact cbb2_0
       refine one_ (i := 4) (N := some 14) (bq 24 31) rfl rfl (one_of HT_.out (by kernel_rfl)) (by decide) (fun K hK => ?_); refine goes_ Tryd.func69 (by kernel_rfl) rfl #[.agg #[.string ((rd_T101 l0 x3_1).f0), .string ((rd_T101 l0 x3_1).f1)]] (by rfl) rfl rfl pbb2_5 ?_; (with_reducible refine (F69.calls k1 ((rd_T101 l0 x3_1).f0) ((rd_T101 l0 x3_1).f1) true _ A4.out).mono ?_); rintro e w16 ⟨rfl, hb⟩; refine ⟨_, rfl, ?_⟩; replace HB := Aside0.mk (below_step pbb2_9 hb); (try clear hb); (try clear hb2); (try clear hk); (try clear hi); refine hK.out _ _ ⟨((HB.out.cell (World.block_lt_of_cell? w _ hw101_0)).trans hw101_0), ((HB.out.cell (World.block_lt_of_cell? w _ hw101_1)).trans hw101_1)⟩ (fun hHeld => ?_); clear hK K; refine norm_ (a' := ?_) ?_ ?_; rotate_left
       ·show Act.put _ (some 14) _ = _; simp only [Act.put, List.setIfInBounds_toArray, List.set_cons_zero, List.set_cons_succ, i64_w, i32_w]
        rfl
       refine pv_ 5 15 (bq 24 63) HT_ ?_; refine pv_ 6 16 (bq 24 127) HT_ ?_; refine pv_ 7 17 (bq 24 255) HT_ ?_; refine pv_ 8 18 (bq 24 511) HT_ ?_; refine pv_ 9 19 (bq 24 1023) HT_ ?_; refine pure_ (i := 10) (N := some 20) (v := undef) (a' := ?_) (bq 24 2047) rfl rfl (any_of HT_.out (by kernel_rfl)) (fun _ _ _ h => h) (Or.inr ⟨by rfl, rfl⟩) ?_ ?_; rotate_left
       ·exact cbb2_0
       refine pure_ (i := 11) (N := some 21) (v := undef) (a' := ?_) (bq 24 4095) rfl rfl (any_of HT_.out (by kernel_rfl)) (fun _ _ _ h => h) (Or.inr ⟨by rfl, rfl⟩) ?_ ?_; rotate_left
       ·exact cbb2_0
       refine pure_ (i := 12) (N := some 22) (v := undef) (a' := ?_) (bq 24 8191) rfl rfl (any_of HT_.out (by kernel_rfl)) (fun _ _ _ h => h) (Or.inr ⟨by rfl, rfl⟩) ?_ ?_; rotate_left
       ·exact cbb2_0
       refine pure_ (i := 13) (N := some 23) (v := undef) (a' := ?_) (bq 24 16383) rfl rfl (any_of HT_.out (by kernel_rfl)) (fun _ _ _ h => h) (Or.inr ⟨by rfl, rfl⟩) ?_ ?_; rotate_left
       ·exact cbb2_0
       refine pure_ (i := 14) (N := some 24) (v := undef) (a' := ?_) (bq 24 32767) rfl rfl (any_of HT_.out (by kernel_rfl)) (fun _ _ _ h => h) (Or.inr ⟨by rfl, rfl⟩) ?_ ?_; rotate_left
       ·exact cbb2_0
       refine pure_ (i := 15) (N := some 25) (v := undef) (a' := ?_) (bq 24 65535) rfl rfl (any_of HT_.out (by kernel_rfl)) (fun _ _ _ h => h) (Or.inr ⟨by rfl, rfl⟩) ?_ ?_; rotate_left
       ·exact cbb2_0
       refine pure_ (i := 16) (N := some 26) (v := undef) (a' := ?_) (bq 24 131071) rfl rfl (any_of HT_.out (by kernel_rfl)) (fun _ _ _ h => h) (Or.inr ⟨by rfl, rfl⟩) ?_ ?_; rotate_left
       ·exact cbb2_0
       refine pure_ (i := 17) (N := some 27) (v := undef) (a' := ?_) (bq 24 262143) rfl rfl (any_of HT_.out (by kernel_rfl)) (fun _ _ _ h => h) (Or.inr ⟨by rfl, rfl⟩) ?_ ?_; rotate_left
       ·exact cbb2_0
       refine pure_ (i := 18) (N := some 28) (v := undef) (a' := ?_) (bq 24 524287) rfl rfl (any_of HT_.out (by kernel_rfl)) (fun _ _ _ h => h) (Or.inr ⟨by rfl, rfl⟩) ?_ ?_; rotate_left
       ·exact cbb2_0
       refine pure_ (i := 19) (N := some 29) (v := undef) (a' := ?_) (bq 24 1048575) rfl rfl (any_of HT_.out (by kernel_rfl)) (fun _ _ _ h => h) (Or.inr ⟨by rfl, rfl⟩) ?_ ?_; rotate_left
       ·exact cbb2_0
       refine pure_ (i := 20) (N := some 30) (v := undef) (a' := ?_) (bq 24 2097151) rfl rfl (any_of HT_.out (by kernel_rfl)) (fun _ _ _ h => h) (Or.inr ⟨by rfl, rfl⟩) ?_ ?_; rotate_left
       ·exact cbb2_0
       refine pure_ (i := 21) (N := some 31) (v := undef) (a' := ?_) (bq 24 4194303) rfl rfl (any_of HT_.out (by kernel_rfl)) (fun _ _ _ h => h) (Or.inr ⟨by rfl, rfl⟩) ?_ ?_; rotate_left
       ·exact cbb2_0
       refine pv_ 22 32 (bq 24 8388607) HT_ ?_; refine pv_ 23 33 (bq 24 16777215) HT_ ?_; refine done_ (done_of HT_.out (by kernel_rfl)) ?_; (try go_wp2)
       go_roundg k1
       case measure => have := HK1.out; omega
       case rel => exact ⟨(wrap64 (x3_1 + 1)), pbb2_3, H', ⟨pbb2_7⟩, ⟨pbb2_9⟩⟩
     ·replace c5 := Bool.eq_false_iff.mpr c5; subst c5; rw [if_neg (show ¬ (false = true) by decide)] at H; obtain rfl := Option.some.inj H; (try go_wp2); replace HB := Aside0.mk (below_drew1 HB.out); have p101 : 0 ≤ (x3_1 : Int) := of_decide_eq_true pbb2_6; have q101 : x3_1 < (l0.length : Int) := of_decide_eq_true pbb2_6; obtain ⟨ad101, e101, hx101_0, hx101_1⟩ := at_T101 HR0.out x3_1 p101 q101; have hw101_1 := hx101_1; have hw101_0 := hx101_0
      cases e101
      replace hx101_0 := (HB.out.cell (World.block_lt_of_cell? w _ hx101_0)).trans hx101_0; replace hx101_1 := (HB.out.cell (World.block_lt_of_cell? w _ hx101_1)).trans hx101_1; replace p101 := eq_true p101; replace q101 := eq_true q101; refine start_ (n := 24) (S := fun w' => w'.cell? (ad101.add ((x3_1).toNat * 2)) = some (.string ((rd_T101 l0 x3_1).f0)) ∧ w'.cell? ⟨(ad101.add ((x3_1).toNat * 2)).block, (ad101.add ((x3_1).toNat * 2)).off + 1, none⟩ = some (.string ((rd_T101 l0 x3_1).f1))) (ds := []) (bq 24 0) (by kernel_rfl) rfl rfl ⟨((HB.out.cell (World.block_lt_of_cell? w _ hw101_0)).trans hw101_0), ((HB.out.cell (World.block_lt_of_cell? w _ hw101_1)).trans hw101_1)⟩ (fun hHeld => ?_); refine with_tabW F42.tab4 F42.bits4 (fun HT_ HW_ => ?_); generalize wr.drew = w17 at HB hx101_0 hx101_1 hHeld ⊢; refine pv_ 0 10 (bq 24 1) HT_ ?_; refine pv_ 1 11 (bq 24 3) HT_ ?_; refine pv_ 2 12 (bq 24 7) HT_ ?_; refine take_ (i := 3) (N := some 13) (v := ?_) (a' := ?_) (bq 24 15) rfl rfl (take_ofW HT_.out HW_.out (by kernel_rfl)) (fun _ _ _ h => h) (Or.inl ⟨by rfl, ?_⟩) hHeld ?_ ?_; rotate_left
      ·rintro w' ⟨s0, s1⟩; go_simp; (with_reducible rfl)
      rotate_left
      ·exact cbb2_0
      refine one_ (i := 4) (N := some 14) (bq 24 31) rfl rfl (one_of HT_.out (by kernel_rfl)) (by decide) (fun K hK => ?_); refine goes_ Tryd.func69 (by kernel_rfl) rfl #[.agg #[.string ((rd_T101 l0 x3_1).f0), .string ((rd_T101 l0 x3_1).f1)]] (by rfl) rfl rfl pbb2_5 ?_; (with_reducible refine (F69.calls k1 ((rd_T101 l0 x3_1).f0) ((rd_T101 l0 x3_1).f1) false _ A4.out).mono ?_); rintro e w18 ⟨rfl, hb⟩; refine ⟨_, rfl, ?_⟩; replace HB := Aside0.mk (below_step pbb2_9 hb); (try clear hb); (try clear hb2); (try clear hk); (try clear hi); refine hK.out _ _ ⟨((HB.out.cell (World.block_lt_of_cell? w _ hw101_0)).trans hw101_0), ((HB.out.cell (World.block_lt_of_cell? w _ hw101_1)).trans hw101_1)⟩ (fun hHeld => ?_); clear hK K; refine norm_ (a' := ?_) ?_ ?_; rotate_left
      ·show Act.put _ (some 14) _ = _; simp only [Act.put, List.setIfInBounds_toArray, List.set_cons_zero, List.set_cons_succ, i64_w, i32_w]
       rfl
      refine pv_ 5 15 (bq 24 63) HT_ ?_; refine pv_ 6 16 (bq 24 127) HT_ ?_; refine pure_ (i := 7) (N := some 17) (v := undef) (a' := ?_) (bq 24 255) rfl rfl (any_of HT_.out (by kernel_rfl)) (fun _ _ _ h => h) (Or.inr ⟨by rfl, rfl⟩) ?_ ?_; rotate_left
      ·exact cbb2_0
      refine pure_ (i := 8) (N := some 18) (v := undef) (a' := ?_) (bq 24 511) rfl rfl (any_of HT_.out (by kernel_rfl)) (fun _ _ _ h => h) (Or.inr ⟨by rfl, rfl⟩) ?_ ?_; rotate_left
      ·exact cbb2_0
      refine pure_ (i := 9) (N := some 19) (v := undef) (a' := ?_) (bq 24 1023) rfl rfl (any_of HT_.out (by kernel_rfl)) (fun _ _ _ h => h) (Or.inr ⟨by rfl, rfl⟩) ?_ ?_; rotate_left
      ·exact cbb2_0
      refine pure_ (i := 10) (N := some 20) (v := undef) (a' := ?_) (bq 24 2047) rfl rfl (any_of HT_.out (by kernel_rfl)) (fun _ _ _ h => h) (Or.inr ⟨by rfl, rfl⟩) ?_ ?_; rotate_left
      ·exact cbb2_0
      refine pure_ (i := 11) (N := some 21) (v := undef) (a' := ?_) (bq 24 4095) rfl rfl (any_of HT_.out (by kernel_rfl)) (fun _ _ _ h => h) (Or.inr ⟨by rfl, rfl⟩) ?_ ?_; rotate_left
      ·exact cbb2_0
      refine pure_ (i := 12) (N := some 22) (v := undef) (a' := ?_) (bq 24 8191) rfl rfl (any_of HT_.out (by kernel_rfl)) (fun _ _ _ h => h) (Or.inr ⟨by rfl, rfl⟩) ?_ ?_; rotate_left
      ·exact cbb2_0
      refine pure_ (i := 13) (N := some 23) (v := undef) (a' := ?_) (bq 24 16383) rfl rfl (any_of HT_.out (by kernel_rfl)) (fun _ _ _ h => h) (Or.inr ⟨by rfl, rfl⟩) ?_ ?_; rotate_left
      ·exact cbb2_0
      refine pure_ (i := 14) (N := some 24) (v := undef) (a' := ?_) (bq 24 32767) rfl rfl (any_of HT_.out (by kernel_rfl)) (fun _ _ _ h => h) (Or.inr ⟨by rfl, rfl⟩) ?_ ?_; rotate_left
      ·exact cbb2_0
      refine pure_ (i := 15) (N := some 25) (v := undef) (a' := ?_) (bq 24 65535) rfl rfl (any_of HT_.out (by kernel_rfl)) (fun _ _ _ h => h) (Or.inr ⟨by rfl, rfl⟩) ?_ ?_; rotate_left
      ·exact cbb2_0
      refine pure_ (i := 16) (N := some 26) (v := undef) (a' := ?_) (bq 24 131071) rfl rfl (any_of HT_.out (by kernel_rfl)) (fun _ _ _ h => h) (Or.inr ⟨by rfl, rfl⟩) ?_ ?_; rotate_left
      ·exact cbb2_0
      refine pure_ (i := 17) (N := some 27) (v := undef) (a' := ?_) (bq 24 262143) rfl rfl (any_of HT_.out (by kernel_rfl)) (fun _ _ _ h => h) (Or.inr ⟨by rfl, rfl⟩) ?_ ?_; rotate_left
      ·exact cbb2_0
      refine pure_ (i := 18) (N := some 28) (v := undef) (a' := ?_) (bq 24 524287) rfl rfl (any_of HT_.out (by kernel_rfl)) (fun _ _ _ h => h) (Or.inr ⟨by rfl, rfl⟩) ?_ ?_; rotate_left
      ·exact cbb2_0
      refine pure_ (i := 19) (N := some 29) (v := undef) (a' := ?_) (bq 24 1048575) rfl rfl (any_of HT_.out (by kernel_rfl)) (fun _ _ _ h => h) (Or.inr ⟨by rfl, rfl⟩) ?_ ?_; rotate_left
      ·exact cbb2_0
      refine pure_ (i := 20) (N := some 30) (v := undef) (a' := ?_) (bq 24 2097151) rfl rfl (any_of HT_.out (by kernel_rfl)) (fun _ _ _ h => h) (Or.inr ⟨by rfl, rfl⟩) ?_ ?_; rotate_left
      ·exact cbb2_0
      refine pure_ (i := 21) (N := some 31) (v := undef) (a' := ?_) (bq 24 4194303) rfl rfl (any_of HT_.out (by kernel_rfl)) (fun _ _ _ h => h) (Or.inr ⟨by rfl, rfl⟩) ?_ ?_; rotate_left
      ·exact cbb2_0
      refine pure_ (i := 22) (N := some 32) (v := undef) (a' := ?_) (bq 24 8388607) rfl rfl (any_of HT_.out (by kernel_rfl)) (fun _ _ _ h => h) (Or.inr ⟨by rfl, rfl⟩) ?_ ?_; rotate_left
      ·exact cbb2_0
      refine pv_ 23 33 (bq 24 16777215) HT_ ?_; refine done_ (done_of HT_.out (by kernel_rfl)) ?_; (try go_wp2)
      go_ret
      exact ⟨pbb2_18, pbb2_9⟩
    ·rw [if_neg c3] at H; exact absurd H (by simp)
   ·rw [if_neg c2] at H; have c2b0 := decide_eq_false c2; clear c2; obtain rfl := Option.some.inj H
    go_wp2
    go_ret
    exact ⟨pbb2_18, pbb2_9⟩
mutual
def F15.j0 : Nat → Bool → ByteArray → ByteArray → Int → Int → ByteArray → ByteArray → List (S101) → Option (Int)
  | 0, _, _, _, _, _, _, _, _ => none
  | k + 1, x3, x102000, x102001, x102002, x102003, x102004, x102005, x102006 => if x3 = true then (some 7) else ((F40.f k x102001).bind fun t105 => (if t105 = true then ((F41.f x102002 1000000000000).bind fun t106 => (if t106 = true then ((F41.f x102003 1000000000000).bind fun t107 => (F15.j1 k (!t107) x102000 x102001 x102002 x102003 x102004 x102005 x102006)) else (F15.j1 k true x102000 x102001 x102002 x102003 x102004 x102005 x102006))) else (some 13)))
def F15.j1 : Nat → Bool → ByteArray → ByteArray → Int → Int → ByteArray → ByteArray → List (S101) → Option (Int)
  | 0, _, _, _, _, _, _, _, _ => none
  | k + 1, x25, x102000, x102001, x102002, x102003, x102004, x102005, x102006 => if x25 = true then (some 4) else (if x102002 = 0 then (F15.j2 k (x102003 == 0) x102000 x102001 x102002 x102003 x102004 x102005 x102006) else (F15.j2 k false x102000 x102001 x102002 x102003 x102004 x102005 x102006))
def F15.j2 : Nat → Bool → ByteArray → ByteArray → Int → Int → ByteArray → ByteArray → List (S101) → Option (Int)
  | 0, _, _, _, _, _, _, _, _ => none
  | k + 1, x36, x102000, x102001, x102002, x102003, x102004, x102005, x102006 => if x36 = true then (some 2) else ((F42.f k x102006).bind fun t108 => (if t108 = true then (some 0) else (some 14)))
end
def F15.f (k : Nat) (a0_0 : ByteArray) (a0_1 : ByteArray) (a0_2 : Int) (a0_3 : Int) (a0_4 : ByteArray) (a0_5 : ByteArray) (l0_6 : List (S101)) : Option (Int) := (F38.f k a0_0).bind fun t102 => (if t102 = true then ((F39.f k a0_4).bind fun t103 => (if t103 = true then ((F39.f k a0_5).bind fun t104 => (F15.j0 k (!t104) a0_0 a0_1 a0_2 a0_3 a0_4 a0_5 l0_6)) else (F15.j0 k true a0_0 a0_1 a0_2 a0_3 a0_4 a0_5 l0_6))) else (F15.j0 k true a0_0 a0_1 a0_2 a0_3 a0_4 a0_5 l0_6))
set_option maxHeartbeats 8000000 in
set_option maxRecDepth 100000 in
theorem F15.calls (k : Nat) (a0_0 : ByteArray) (a0_1 : ByteArray) (a0_2 : Int) (a0_3 : Int) (a0_4 : ByteArray) (a0_5 : ByteArray) (A0_6 : Option Addr) (c0_6 : Nat) (l0_6 : List (S101)) (r : Int) (w : World) (hr0_6 : Kd.C k101 w A0_6 l0_6.length l0_6) (hc0_6 : l0_6.length ≤ c0_6) (h : F15.f k a0_0 a0_1 a0_2 a0_3 a0_4 a0_5 l0_6 = some r) :
    Calls Tryd.prog 15 #[.agg #[.string a0_0, .string a0_1, .int .i64 a0_2, .int .i64 a0_3, .string a0_4, .string a0_5, .slice A0_6 l0_6.length c0_6]] w fun e w' => e = .returned (.int .i64 r) ∧ Below w.heap.size w w' := by
 have hu24 := Tryd.underlying24; have hu9 := Tryd.underlying9; have hu3 := Tryd.underlying3; have hu22 := Tryd.underlying22; have HR0_6 := Aside0.mk hr0_6; have HC0_6 := Aside0.mk hc0_6; clear hr0_6 hc0_6; have HB := Aside0.mk (Below.refl w.heap.size w)
 unfold F15.f at h
 have H := h; clear h; have HC2 := Aside0.mk H; clear H; go_enter Tryd.func15, Tryd.ntmps15
 go_upto_region 1 with (first | ((with_reducible refine gate_dst (N := 1) rfl ?_); refine box_event ?hg (N := 1) ?hd (cs := #[.string a0_0, .string a0_1, .int .i64 a0_2, .int .i64 a0_3, .string a0_4, .string a0_5, .slice A0_6 l0_6.length c0_6]) (t := 24) ?hr ?_; (case hd => rfl); (case hg => rfl); (case hr => first | (go_simp; done) | (go_simp; rfl)); intro gb101 hg w3 hbox hb; have BK101 := Aside0.mk (hbox); have GW101 := Aside0.mk ((pbb2_8 : w.heap.size ≤ gb101)); have GE101 := Aside0.mk ((pbb2_8 : w.heap.size ≤ gb101)); replace HB := Aside0.mk (below_step pbb2_9 hb); clear hb hbox hg))
 (try simp only [Act.put, List.setIfInBounds_toArray, List.set_cons_zero, List.set_cons_succ])
 go_cut [3] (fun v3 wc => ∃ (kq : Nat) (x3_1 : Bool), v3 = .bool x3_1 ∧ Aside0 (F15.j0 kq x3_1 a0_0 a0_1 a0_2 a0_3 a0_4 a0_5 l0_6 = some r) ∧ Aside0 (kq ≤ k) ∧ Aside0 (wc.heap[gb101]? = some (.cells #[.string a0_0, .string a0_1, .int .i64 a0_2, .int .i64 a0_3, .string a0_4, .string a0_5, (.slice A0_6 l0_6.length c0_6)] 24 (0, 0))) ∧ Aside0 (Below w.heap.size w wc))
 case first =>
  have H := HC2.out; clear HC2; obtain ⟨t102, A40, H⟩ := bnd H; have A4 := Aside0.mk A40; clear A40
  by_cases c5 : t102 = true
  ·subst c5; rw [if_pos rfl] at H; obtain ⟨t103, A60, H⟩ := bnd H; have A6 := Aside0.mk A60; clear A60
   by_cases c7 : t103 = true
   ·subst c7; rw [if_pos rfl] at H; obtain ⟨t104, A80, H⟩ := bnd H; have A8 := Aside0.mk A80; clear A80; have H' := Aside0.mk H; clear H; obtain ⟨hcz9_0, hcz9_1, hcz9_2, hcz9_3, hcz9_4, hcz9_5, hcz9_6⟩ := cz7 BK101.out; obtain ⟨hfz9_0, hfz9_1, hfz9_2, hfz9_3, hfz9_4, hfz9_5, hfz9_6⟩ := fz7 BK101.out
    go_wp2_with (first | ((with_reducible refine gate_callee (f := 38) rfl ?_); refine goesL_ (some 6) rfl rfl Tryd.func38 (by kernel_rfl) rfl #[.string a0_0] rfl pbb2_5 ?_; (with_reducible refine (F38.calls k a0_0 true _ A4.out).mono ?_); rintro e w' ⟨rfl, ⟨nd, rfl⟩⟩; refine ⟨_, rfl, ?_⟩) | (go_at_call 39; (with_reducible refine (F39.calls k a0_4 true _ A6.out).mono ?_); rintro e w' ⟨rfl, ⟨nd, rfl⟩⟩) | (go_at_call 39; (with_reducible refine (F39.calls k a0_5 t104 _ A8.out).mono ?_); rintro e w' ⟨rfl, ⟨nd, rfl⟩⟩))
    go_meet
    case rel => exact ⟨_, (!t104), pbb2_3, H', ⟨pbb6_2⟩, ⟨pbb2_12⟩, ⟨pbb2_11⟩⟩
   ·replace c7 := Bool.eq_false_iff.mpr c7; subst c7; rw [if_neg (show ¬ (false = true) by decide)] at H; have H' := Aside0.mk H; clear H; obtain ⟨hcz10_0, hcz10_1, hcz10_2, hcz10_3, hcz10_4, hcz10_5, hcz10_6⟩ := cz7 BK101.out; obtain ⟨hfz10_0, hfz10_1, hfz10_2, hfz10_3, hfz10_4, hfz10_5, hfz10_6⟩ := fz7 BK101.out
    go_wp2_with (first | ((with_reducible refine gate_callee (f := 38) rfl ?_); refine goesL_ (some 6) rfl rfl Tryd.func38 (by kernel_rfl) rfl #[.string a0_0] rfl pbb2_5 ?_; (with_reducible refine (F38.calls k a0_0 true _ A4.out).mono ?_); rintro e w' ⟨rfl, ⟨nd, rfl⟩⟩; refine ⟨_, rfl, ?_⟩) | (go_at_call 39; (with_reducible refine (F39.calls k a0_4 false _ A6.out).mono ?_); rintro e w' ⟨rfl, ⟨nd, rfl⟩⟩))
    go_meet
    case rel => exact ⟨_, (true), pbb2_3, H', ⟨pbb6_2⟩, ⟨pbb2_12⟩, ⟨pbb2_11⟩⟩
  ·replace c5 := Bool.eq_false_iff.mpr c5; subst c5; rw [if_neg (show ¬ (false = true) by decide)] at H; have H' := Aside0.mk H; clear H; obtain ⟨hcz11_0, hcz11_1, hcz11_2, hcz11_3, hcz11_4, hcz11_5, hcz11_6⟩ := cz7 BK101.out; obtain ⟨hfz11_0, hfz11_1, hfz11_2, hfz11_3, hfz11_4, hfz11_5, hfz11_6⟩ := fz7 BK101.out
   go_wp2_with (first | ((with_reducible refine gate_callee (f := 38) rfl ?_); refine goesL_ (some 6) rfl rfl Tryd.func38 (by kernel_rfl) rfl #[.string a0_0] rfl pbb2_5 ?_; (with_reducible refine (F38.calls k a0_0 false _ A4.out).mono ?_); rintro e w' ⟨rfl, ⟨nd, rfl⟩⟩; refine ⟨_, rfl, ?_⟩))
   go_meet
   case rel => exact ⟨_, (true), pbb2_3, H', ⟨pbb6_2⟩, ⟨pbb2_12⟩, ⟨pbb2_11⟩⟩
 case rest =>
  clear HC2; (try clear c1); (try clear p2); (try clear c3); (try clear c5); (try clear c7); (try clear hcz10_0 hcz10_1 hcz10_2 hcz10_3 hcz10_4 hcz10_5 hcz10_6); (try clear hcz11_0 hcz11_1 hcz11_2 hcz11_3 hcz11_4 hcz11_5 hcz11_6); (try clear hcz9_0 hcz9_1 hcz9_2 hcz9_3 hcz9_4 hcz9_5 hcz9_6); (try clear hfz10_0 hfz10_1 hfz10_2 hfz10_3 hfz10_4 hfz10_5 hfz10_6); (try clear hfz11_0 hfz11_1 hfz11_2 hfz11_3 hfz11_4 hfz11_5 hfz11_6); (try clear hfz9_0 hfz9_1 hfz9_2 hfz9_3 hfz9_4 hfz9_5 hfz9_6); obtain ⟨kq, x3_1, rfl, HA, HJ1, BK101, HB⟩ := hcut
  cases kq with
  | zero => exact absurd HA.out (by simp [F15.j0])
  | succ kj1 =>
   have H := HA.out; clear HA; simp only [F15.j0] at H
   by_cases c12 : x3_1 = true
   ·subst c12; rw [if_pos rfl] at H; obtain rfl := Option.some.inj H
    go_wp2
    go_ret
    exact ⟨pbb2_18, pbb2_11⟩
   ·replace c12 := Bool.eq_false_iff.mpr c12; subst c12; rw [if_neg (show ¬ (false = true) by decide)] at H; obtain ⟨t105, A130, H⟩ := bnd H; have A13 := Aside0.mk A130; clear A130
    by_cases c14 : t105 = true
    ·subst c14; rw [if_pos rfl] at H; have HC15 := Aside0.mk H; clear H; obtain ⟨hcz16_0, hcz16_1, hcz16_2, hcz16_3, hcz16_4, hcz16_5, hcz16_6⟩ := cz7 BK101.out; obtain ⟨hfz16_0, hfz16_1, hfz16_2, hfz16_3, hfz16_4, hfz16_5, hfz16_6⟩ := fz7 BK101.out
     go_upto_region 5 with (first | ((with_reducible refine gate_callee (f := 40) rfl ?_); refine goesL_ (some 23) rfl rfl Tryd.func40 (by kernel_rfl) rfl #[.string a0_1] rfl pbb2_5 ?_; (with_reducible refine (F40.calls kj1 a0_1 true _ A13.out).mono ?_); rintro e w' ⟨rfl, ⟨nd, rfl⟩⟩; refine ⟨_, rfl, ?_⟩))
     (try simp only [Act.put, List.setIfInBounds_toArray, List.set_cons_zero, List.set_cons_succ])
     go_cut [25] (fun v25 wc => ∃ (kq : Nat) (x25_14 : Bool), v25 = .bool x25_14 ∧ Aside0 (F15.j1 kq x25_14 a0_0 a0_1 a0_2 a0_3 a0_4 a0_5 l0_6 = some r) ∧ Aside0 (kq ≤ kj1) ∧ Aside0 (wc.heap[gb101]? = some (.cells #[.string a0_0, .string a0_1, .int .i64 a0_2, .int .i64 a0_3, .string a0_4, .string a0_5, (.slice A0_6 l0_6.length c0_6)] 24 (0, 0))) ∧ Aside0 (Below w.heap.size w wc))
     case first =>
      have H := HC15.out; clear HC15; obtain ⟨t106, A170, H⟩ := bnd H; have A17 := Aside0.mk A170; clear A170
      by_cases c18 : t106 = true
      ·subst c18; rw [if_pos rfl] at H; obtain ⟨t107, A190, H⟩ := bnd H; have A19 := Aside0.mk A190; clear A190; have H' := Aside0.mk H; clear H; obtain ⟨hcz20_0, hcz20_1, hcz20_2, hcz20_3, hcz20_4, hcz20_5, hcz20_6⟩ := cz7 BK101.out; obtain ⟨hfz20_0, hfz20_1, hfz20_2, hfz20_3, hfz20_4, hfz20_5, hfz20_6⟩ := fz7 BK101.out
       go_wp2_with (first | ((with_reducible refine gate_callee (f := 41) rfl ?_); refine goesL_ (some 28) rfl rfl Tryd.func41 (by kernel_rfl) rfl #[.int .i64 a0_2, .int .i64 1000000000000] rfl pbb2_5 ?_; (with_reducible refine (F41.calls a0_2 1000000000000 true _ A17.out).mono ?_); rintro e w' ⟨rfl, ⟨nd, rfl⟩⟩; refine ⟨_, rfl, ?_⟩) | (go_at_call 41; (with_reducible refine (F41.calls a0_3 1000000000000 t107 _ A19.out).mono ?_); rintro e w' ⟨rfl, ⟨nd, rfl⟩⟩))
       go_meet
       case rel => exact ⟨_, (!t107), pbb2_3, H', ⟨by have := HJ1.out; first | omega | exact Nat.le_refl _⟩, ⟨pbb2_12⟩, ⟨pbb2_11⟩⟩
      ·replace c18 := Bool.eq_false_iff.mpr c18; subst c18; rw [if_neg (show ¬ (false = true) by decide)] at H; have H' := Aside0.mk H; clear H; obtain ⟨hcz21_0, hcz21_1, hcz21_2, hcz21_3, hcz21_4, hcz21_5, hcz21_6⟩ := cz7 BK101.out; obtain ⟨hfz21_0, hfz21_1, hfz21_2, hfz21_3, hfz21_4, hfz21_5, hfz21_6⟩ := fz7 BK101.out
       go_wp2_with (first | ((with_reducible refine gate_callee (f := 41) rfl ?_); refine goesL_ (some 28) rfl rfl Tryd.func41 (by kernel_rfl) rfl #[.int .i64 a0_2, .int .i64 1000000000000] rfl pbb2_5 ?_; (with_reducible refine (F41.calls a0_2 1000000000000 false _ A17.out).mono ?_); rintro e w' ⟨rfl, ⟨nd, rfl⟩⟩; refine ⟨_, rfl, ?_⟩))
       go_meet
       case rel => exact ⟨_, (true), pbb2_3, H', ⟨by have := HJ1.out; first | omega | exact Nat.le_refl _⟩, ⟨pbb2_12⟩, ⟨pbb2_11⟩⟩
     case rest =>
      clear HC15; (try clear c1); (try clear p2); (try clear c3); (try clear c4); (try clear c5); (try clear c7); (try clear c12); (try clear c14); (try clear c15); (try clear c18); (try clear hcz10_0 hcz10_1 hcz10_2 hcz10_3 hcz10_4 hcz10_5 hcz10_6); (try clear hcz11_0 hcz11_1 hcz11_2 hcz11_3 hcz11_4 hcz11_5 hcz11_6); (try clear hcz16_0 hcz16_1 hcz16_2 hcz16_3 hcz16_4 hcz16_5 hcz16_6); (try clear hcz20_0 hcz20_1 hcz20_2 hcz20_3 hcz20_4 hcz20_5 hcz20_6); (try clear hcz21_0 hcz21_1 hcz21_2 hcz21_3 hcz21_4 hcz21_5 hcz21_6); (try clear hcz9_0 hcz9_1 hcz9_2 hcz9_3 hcz9_4 hcz9_5 hcz9_6); (try clear hfz10_0 hfz10_1 hfz10_2 hfz10_3 hfz10_4 hfz10_5 hfz10_6); (try clear hfz11_0 hfz11_1 hfz11_2 hfz11_3 hfz11_4 hfz11_5 hfz11_6); (try clear hfz16_0 hfz16_1 hfz16_2 hfz16_3 hfz16_4 hfz16_5 hfz16_6); (try clear hfz20_0 hfz20_1 hfz20_2 hfz20_3 hfz20_4 hfz20_5 hfz20_6); (try clear hfz21_0 hfz21_1 hfz21_2 hfz21_3 hfz21_4 hfz21_5 hfz21_6); (try clear hfz9_0 hfz9_1 hfz9_2 hfz9_3 hfz9_4 hfz9_5 hfz9_6); (try clear p2); obtain ⟨kq, x25_14, rfl, HA, HJ14, BK101, HB⟩ := hcut
      cases kq with
      | zero => exact absurd HA.out (by simp [F15.j1])
      | succ kj14 =>
       have H := HA.out; clear HA; simp only [F15.j1] at H
       by_cases c22 : x25_14 = true
       ·subst c22; rw [if_pos rfl] at H; obtain rfl := Option.some.inj H
        go_wp2
        go_ret
        exact ⟨pbb2_18, pbb2_11⟩
       ·replace c22 := Bool.eq_false_iff.mpr c22; subst c22; rw [if_neg (show ¬ (false = true) by decide)] at H; have HC23 := Aside0.mk H; clear H
        go_upto_region 7 with (fail)
        go_cut [36] (fun v36 wc => ∃ (kq : Nat) (x36_22 : Bool), v36 = .bool x36_22 ∧ Aside0 (F15.j2 kq x36_22 a0_0 a0_1 a0_2 a0_3 a0_4 a0_5 l0_6 = some r) ∧ Aside0 (kq ≤ kj14) ∧ Aside0 (wc.heap[gb101]? = some (.cells #[.string a0_0, .string a0_1, .int .i64 a0_2, .int .i64 a0_3, .string a0_4, .string a0_5, (.slice A0_6 l0_6.length c0_6)] 24 (0, 0))) ∧ Aside0 (Below w.heap.size w wc))
        case first =>
         have H := HC23.out; clear HC23
         by_cases c24 : a0_2 = 0
         ·rw [if_pos c24] at H; have c24b0 := bT_ c24; have c24b1 := bF_ c24; clear c24; (first | rw [c24b0] | (simp only [i64_w, i32_w]; rw [c24b0]) | skip); have H' := Aside0.mk H; clear H; obtain ⟨hcz25_0, hcz25_1, hcz25_2, hcz25_3, hcz25_4, hcz25_5, hcz25_6⟩ := cz7 BK101.out; obtain ⟨hfz25_0, hfz25_1, hfz25_2, hfz25_3, hfz25_4, hfz25_5, hfz25_6⟩ := fz7 BK101.out
          go_wp2
          go_meet
          case rel => exact ⟨_, ((a0_3 == 0)), pbb2_3, H', ⟨by have := HJ1.out; have := HJ14.out; first | omega | exact Nat.le_refl _⟩, ⟨pbb2_12⟩, ⟨pbb2_11⟩⟩
         ·rw [if_neg c24] at H; have c24b0 := nF_ c24; have c24b1 := nT_ c24; (first | rw [c24b0] | (simp only [i64_w, i32_w]; rw [c24b0]) | skip); have H' := Aside0.mk H; clear H; obtain ⟨hcz26_0, hcz26_1, hcz26_2, hcz26_3, hcz26_4, hcz26_5, hcz26_6⟩ := cz7 BK101.out; obtain ⟨hfz26_0, hfz26_1, hfz26_2, hfz26_3, hfz26_4, hfz26_5, hfz26_6⟩ := fz7 BK101.out
          go_wp2
          go_meet
          case rel => exact ⟨_, (false), pbb2_3, H', ⟨by have := HJ1.out; have := HJ14.out; first | omega | exact Nat.le_refl _⟩, ⟨pbb2_12⟩, ⟨pbb2_11⟩⟩
        case rest =>
         clear HC23; (try clear c1); (try clear c2); (try clear p2); (try clear c3); (try clear c4); (try clear c5); (try clear c7); (try clear c12); (try clear c14); (try clear c15); (try clear c18); (try clear c22); (try clear c24); (try clear c24b0); (try clear c24b1); (try clear hcz10_0 hcz10_1 hcz10_2 hcz10_3 hcz10_4 hcz10_5 hcz10_6); (try clear hcz11_0 hcz11_1 hcz11_2 hcz11_3 hcz11_4 hcz11_5 hcz11_6); (try clear hcz16_0 hcz16_1 hcz16_2 hcz16_3 hcz16_4 hcz16_5 hcz16_6); (try clear hcz20_0 hcz20_1 hcz20_2 hcz20_3 hcz20_4 hcz20_5 hcz20_6); (try clear hcz21_0 hcz21_1 hcz21_2 hcz21_3 hcz21_4 hcz21_5 hcz21_6); (try clear hcz25_0 hcz25_1 hcz25_2 hcz25_3 hcz25_4 hcz25_5 hcz25_6); (try clear hcz26_0 hcz26_1 hcz26_2 hcz26_3 hcz26_4 hcz26_5 hcz26_6); (try clear hcz9_0 hcz9_1 hcz9_2 hcz9_3 hcz9_4 hcz9_5 hcz9_6); (try clear hfz10_0 hfz10_1 hfz10_2 hfz10_3 hfz10_4 hfz10_5 hfz10_6); (try clear hfz11_0 hfz11_1 hfz11_2 hfz11_3 hfz11_4 hfz11_5 hfz11_6); (try clear hfz16_0 hfz16_1 hfz16_2 hfz16_3 hfz16_4 hfz16_5 hfz16_6); (try clear hfz20_0 hfz20_1 hfz20_2 hfz20_3 hfz20_4 hfz20_5 hfz20_6); (try clear hfz21_0 hfz21_1 hfz21_2 hfz21_3 hfz21_4 hfz21_5 hfz21_6); (try clear hfz25_0 hfz25_1 hfz25_2 hfz25_3 hfz25_4 hfz25_5 hfz25_6); (try clear hfz26_0 hfz26_1 hfz26_2 hfz26_3 hfz26_4 hfz26_5 hfz26_6); (try clear hfz9_0 hfz9_1 hfz9_2 hfz9_3 hfz9_4 hfz9_5 hfz9_6); (try clear p2); obtain ⟨kq, x36_22, rfl, HA, HJ22, BK101, HB⟩ := hcut
         cases kq with
         | zero => exact absurd HA.out (by simp [F15.j2])
         | succ kj22 =>
          have H := HA.out; clear HA; simp only [F15.j2] at H
          by_cases c27 : x36_22 = true
          ·subst c27; rw [if_pos rfl] at H; obtain rfl := Option.some.inj H
           go_wp2
           go_ret
           exact ⟨pbb2_18, pbb2_11⟩
          ·replace c27 := Bool.eq_false_iff.mpr c27; subst c27; rw [if_neg (show ¬ (false = true) by decide)] at H; obtain ⟨t108, A280, H⟩ := bnd H; have A28 := Aside0.mk A280; clear A280
           by_cases c29 : t108 = true
           ·subst c29; rw [if_pos rfl] at H; obtain rfl := Option.some.inj H; obtain ⟨hcz30_0, hcz30_1, hcz30_2, hcz30_3, hcz30_4, hcz30_5, hcz30_6⟩ := cz7 BK101.out; obtain ⟨hfz30_0, hfz30_1, hfz30_2, hfz30_3, hfz30_4, hfz30_5, hfz30_6⟩ := fz7 BK101.out
            go_wp2_with (first | ((with_reducible refine gate_callee (f := 42) rfl ?_); refine goesL_ (some 48) rfl rfl Tryd.func42 (by kernel_rfl) rfl #[.slice A0_6 l0_6.length c0_6] rfl pbb2_5 ?_; (with_reducible refine (F42.calls kj22 _ _ l0_6 true _ pbb4_0 (by exact HC0_6.out) A28.out).mono ?_); rintro e w31 ⟨rfl, hb⟩; refine ⟨_, rfl, ?_⟩; replace BK101 := Aside0.mk (blk_below (g := gb101) (o := .cells #[.string a0_0, .string a0_1, .int .i64 a0_2, .int .i64 a0_3, .string a0_4, .string a0_5, .slice A0_6 l0_6.length c0_6] 24 (0, 0)) pbb2_12 hb); replace HB := Aside0.mk (below_step pbb2_11 hb); (try clear hb); (try clear hb2); (try clear hk); (try clear hi)))
            go_ret
            exact ⟨pbb2_18, pbb2_11⟩
           ·replace c29 := Bool.eq_false_iff.mpr c29; subst c29; rw [if_neg (show ¬ (false = true) by decide)] at H; obtain rfl := Option.some.inj H; obtain ⟨hcz32_0, hcz32_1, hcz32_2, hcz32_3, hcz32_4, hcz32_5, hcz32_6⟩ := cz7 BK101.out; obtain ⟨hfz32_0, hfz32_1, hfz32_2, hfz32_3, hfz32_4, hfz32_5, hfz32_6⟩ := fz7 BK101.out
            go_wp2_with (first | ((with_reducible refine gate_callee (f := 42) rfl ?_); refine goesL_ (some 48) rfl rfl Tryd.func42 (by kernel_rfl) rfl #[.slice A0_6 l0_6.length c0_6] rfl pbb2_5 ?_; (with_reducible refine (F42.calls kj22 _ _ l0_6 false _ pbb4_0 (by exact HC0_6.out) A28.out).mono ?_); rintro e w33 ⟨rfl, hb⟩; refine ⟨_, rfl, ?_⟩; replace BK101 := Aside0.mk (blk_below (g := gb101) (o := .cells #[.string a0_0, .string a0_1, .int .i64 a0_2, .int .i64 a0_3, .string a0_4, .string a0_5, .slice A0_6 l0_6.length c0_6] 24 (0, 0)) pbb2_12 hb); replace HB := Aside0.mk (below_step pbb2_11 hb); (try clear hb); (try clear hb2); (try clear hk); (try clear hi)))
            go_ret
            exact ⟨pbb2_18, pbb2_11⟩
    ·replace c14 := Bool.eq_false_iff.mpr c14; subst c14; rw [if_neg (show ¬ (false = true) by decide)] at H; obtain rfl := Option.some.inj H; obtain ⟨hcz34_0, hcz34_1, hcz34_2, hcz34_3, hcz34_4, hcz34_5, hcz34_6⟩ := cz7 BK101.out; obtain ⟨hfz34_0, hfz34_1, hfz34_2, hfz34_3, hfz34_4, hfz34_5, hfz34_6⟩ := fz7 BK101.out
     go_wp2_with (first | ((with_reducible refine gate_callee (f := 40) rfl ?_); refine goesL_ (some 23) rfl rfl Tryd.func40 (by kernel_rfl) rfl #[.string a0_1] rfl pbb2_5 ?_; (with_reducible refine (F40.calls kj1 a0_1 false _ A13.out).mono ?_); rintro e w' ⟨rfl, ⟨nd, rfl⟩⟩; refine ⟨_, rfl, ?_⟩))
     go_ret
     exact ⟨pbb2_18, pbb2_11⟩
theorem reads_line {w : World} {b : Nat} {x : S24} {A6 : Option Addr} {c6 : Nat} (h : w.heap[b]? = some (.cells #[.string x.f0, .string x.f1, .int .i64 x.f2, .int .i64 x.f3, .string x.f4, .string x.f5, .slice A6 x.f6.length c6] 24 (0, 0))) (hc : x.f6.length ≤ c6) (hC : Kd.C k101 w A6 x.f6.length x.f6) : Kd.C k24 w (some ⟨b, 0, none⟩) 1 [x] := by
 refine ⟨rfl, by omega, fun _ => ⟨_, rfl, fun j p hj => ?_⟩⟩; have hj0 : j = 0 := by have := (List.getElem?_eq_some_iff.1 hj).1; simpa using this
 subst hj0; obtain rfl : x = p := by simpa using hj
 refine ⟨_, rfl, k24_mk w x hc hC, fun i u hu => ?_⟩; rw [Addr.add_lit]; refine (blk_cell h _).trans ?_
 simpa using hu
def F3.f (k : Nat) (a0_0 : ByteArray) (a0_1 : ByteArray) (a0_2 : Int) (a0_3 : Int) (a0_4 : ByteArray) (a0_5 : ByteArray) (l0_6 : List S101) (l1 : List Int) : Option Bool :=
 (F12.f k [⟨a0_0, a0_1, a0_2, a0_3, a0_4, a0_5, l0_6⟩]).bind fun t => if t = true then (F14.f k a0_0 a0_1 a0_2 a0_3 a0_4 a0_5 l0_6).bind fun t1 => (F15.f k a0_0 a0_1 a0_2 a0_3 a0_4 a0_5 l0_6).bind fun t2 => if t1 = t2 then F13.f k l1 else none else F13.f k l1
set_option maxHeartbeats 16000000 in
set_option maxRecDepth 100000 in
theorem F3.calls (k : Nat) (a0_0 : ByteArray) (a0_1 : ByteArray) (a0_2 : Int) (a0_3 : Int) (a0_4 : ByteArray) (a0_5 : ByteArray) (A0_6 : Option Addr) (c0_6 : Nat) (l0_6 : List S101) (A1 : Option Addr) (c1 : Nat) (l1 : List Int) (r : Bool) (w : World) (hr0_6 : Kd.C k101 w A0_6 l0_6.length l0_6) (hc0_6 : l0_6.length ≤ c0_6) (hr1 : Kd.C kTab w A1 l1.length l1) (hc1 : l1.length ≤ c1) (h : F3.f k a0_0 a0_1 a0_2 a0_3 a0_4 a0_5 l0_6 l1 = some r) :
  Calls Tryd.prog 3 #[.agg #[.string a0_0, .string a0_1, .int .i64 a0_2, .int .i64 a0_3, .string a0_4, .string a0_5, .slice A0_6 l0_6.length c0_6]] w fun e w' => e = .returned (.bool r) ∧ Below w.heap.size w w' := by
 have HR0 := Aside0.mk hr0_6; have HC0 := Aside0.mk hc0_6; have HR1 := Aside0.mk hr1; have HC1 := Aside0.mk hc1; clear hr0_6 hc0_6 hr1 hc1
 unfold F3.f at h
 obtain ⟨t, ht, h⟩ := Option.bind_eq_some_iff.mp h; have HT := Aside0.mk ht; clear ht; have HB0 := Aside0.mk (below_alloc (Below.refl w.heap.size w) (.cells #[.string a0_0, .string a0_1, .int .i64 a0_2, .int .i64 a0_3, .string a0_4, .string a0_5, .slice A0_6 l0_6.length c0_6] 24)); have HX0 := Aside0.mk (blk_new w (.cells #[.string a0_0, .string a0_1, .int .i64 a0_2, .int .i64 a0_3, .string a0_4, .string a0_5, .slice A0_6 l0_6.length c0_6] 24)); have HX1 := blk_new (w.alloc (.cells #[.string a0_0, .string a0_1, .int .i64 a0_2, .int .i64 a0_3, .string a0_4, .string a0_5, .slice A0_6 l0_6.length c0_6] 24)) (.cells #[.string a0_0, .string a0_1, .int .i64 a0_2, .int .i64 a0_3, .string a0_4, .string a0_5, .slice A0_6 l0_6.length c0_6] 24); rw [show (w.alloc (.cells #[.string a0_0, .string a0_1, .int .i64 a0_2, .int .i64 a0_3, .string a0_4, .string a0_5, .slice A0_6 l0_6.length c0_6] 24)).heap.size = w.heap.size + 1 by simp] at HX1; have HRL := Aside0.mk (reads_line (x := ⟨a0_0, a0_1, a0_2, a0_3, a0_4, a0_5, l0_6⟩) HX1 HC0.out (Kd.C_alloc (Kd.C_alloc HR0.out _) _)); clear HX1
 cases t with
 | false =>
  simp only [Bool.false_eq_true, if_false] at h; have HT3 := Aside0.mk h; clear h; go_enter Tryd.func3, Tryd.ntmps3
  go_wp2_with (first
   | (go_at_call 12; refine (F12.calls k (some ⟨w.heap.size + 1, 0, none⟩) 1 [⟨a0_0, a0_1, a0_2, a0_3, a0_4, a0_5, l0_6⟩] _ _ HRL.out (Nat.le_refl _) HT.out).mono ?_; rintro e w5 ⟨rfl, ⟨nd, rfl⟩⟩)
   | (go_at_call 13; (with_reducible refine (F13.calls k A1 c1 l1 _ _ (by exact Kd.C_drewN (Kd.C_alloc (Kd.C_alloc HR1.out _) _) _) HC1.out HT3.out).mono ?_); rintro e w9 ⟨rfl, hb⟩; have HB9 := Aside0.mk (below_then (pw_below_drewN (below_alloc HB0.out (.cells #[.string a0_0, .string a0_1, .int .i64 a0_2, .int .i64 a0_3, .string a0_4, .string a0_5, .slice A0_6 l0_6.length c0_6] 24)) nd) (pw_below_drewN (below_alloc HB0.out (.cells #[.string a0_0, .string a0_1, .int .i64 a0_2, .int .i64 a0_3, .string a0_4, .string a0_5, .slice A0_6 l0_6.length c0_6] 24)) nd).size hb); clear hb))
  go_ret
  exact ⟨rfl, HB9.out⟩
 | true =>
  simp only [if_true] at h; obtain ⟨t1, ht1, h⟩ := Option.bind_eq_some_iff.mp h; obtain ⟨t2, ht2, h⟩ := Option.bind_eq_some_iff.mp h; have HT1 := Aside0.mk ht1; have HT2 := Aside0.mk ht2; clear ht1 ht2
  split at h
  case isFalse => cases h
  rename_i ce
  subst ce; have HT3 := Aside0.mk h; clear h; have hee : (t1 == t1) = true := beq_self_eq_true _; go_enter Tryd.func3, Tryd.ntmps3
  go_wp2_with (first
   | (go_at_call 12; refine (F12.calls k (some ⟨w.heap.size + 1, 0, none⟩) 1 [⟨a0_0, a0_1, a0_2, a0_3, a0_4, a0_5, l0_6⟩] _ _ HRL.out (Nat.le_refl _) HT.out).mono ?_; rintro e w5 ⟨rfl, ⟨nd, rfl⟩⟩))
  refine nameW ?_; intro W hW; have HB : Aside0 (Below w.heap.size w W.drew) := ⟨by rw [← hW]; exact below_drew (pw_below_drewN (below_alloc HB0.out _) _)⟩; have hX : Aside0 (W.drew.heap[w.heap.size]? = some (.cells #[.string a0_0, .string a0_1, .int .i64 a0_2, .int .i64 a0_3, .string a0_4, .string a0_5, .slice A0_6 l0_6.length c0_6] 24 (0, 0))) := ⟨by rw [← hW]; exact blk_drew (blk_drewN (blk_alloc HX0.out _) nd)⟩; clear hW HB0 HX0; refine start_ (n := 9) (S := fun w' => w'.heap[w.heap.size]? = some (.cells #[.string a0_0, .string a0_1, .int .i64 a0_2, .int .i64 a0_3, .string a0_4, .string a0_5, .slice A0_6 l0_6.length c0_6] 24 (0, 0))) (ds := []) (bq 9 0) (by kernel_rfl) rfl rfl hX.out (fun hHeld => ?_); refine take_ (i := 0) (N := some 8) (v := ?_) (a' := ?_) (bq 9 1) rfl rfl (by kernel_rfl) (fun _ _ _ h => h) (Or.inl ⟨by rfl, ?_⟩) hHeld ?_ ?_; rotate_left
  ·rintro w' s0; have k0 := (blk_cell s0 0).trans rfl; have k1 := (blk_cell s0 1).trans rfl; have k2 := (blk_cell s0 2).trans rfl; have k3 := (blk_cell s0 3).trans rfl; have k4 := (blk_cell s0 4).trans rfl; have k5 := (blk_cell s0 5).trans rfl; have k6 := (blk_cell s0 6).trans rfl; go_simp; with_reducible rfl
  rotate_left
  ·exact cbb2_0
  refine take_ (i := 2) (N := some 10) (v := ?_) (a' := ?_) (bq 9 5) rfl rfl (by kernel_rfl) (fun _ _ _ h => h) (Or.inl ⟨by rfl, ?_⟩) hHeld ?_ ?_; rotate_left
  ·rintro w' s0; have k0 := (blk_cell s0 0).trans rfl; have k1 := (blk_cell s0 1).trans rfl; have k2 := (blk_cell s0 2).trans rfl; have k3 := (blk_cell s0 3).trans rfl; have k4 := (blk_cell s0 4).trans rfl; have k5 := (blk_cell s0 5).trans rfl; have k6 := (blk_cell s0 6).trans rfl; go_simp; with_reducible rfl
  rotate_left
  ·exact cbb2_0
  refine one_ (i := 1) (N := some 9) (bq 9 7) rfl rfl (by kernel_rfl) (by decide) (fun K hK => ?_); refine goes_ Tryd.func14 (by kernel_rfl) rfl #[.agg #[.string a0_0, .string a0_1, .int .i64 a0_2, .int .i64 a0_3, .string a0_4, .string a0_5, .slice A0_6 l0_6.length c0_6]] (by rfl) rfl rfl pli1_0 ?_; (with_reducible refine (F14.calls k a0_0 a0_1 a0_2 a0_3 a0_4 a0_5 A0_6 c0_6 l0_6 _ _ ?side1 HC0.out HT1.out).mono ?_)
  case side1 => exact Kd.C_below HR0.out HB.out
  rintro e w9 ⟨rfl, hb⟩; refine ⟨_, rfl, ?_⟩; have HX2 := Aside0.mk (blk_below hX.out hb); have HB2 := Aside0.mk (below_then HB.out HB.out.size hb); clear hX HB hb; have hX := HX2; have HB := HB2; clear HX2 HB2; refine hK.out _ _ hX.out (fun hHeld => ?_); clear hK K; refine norm_ (a' := ?_) ?_ ?_; rotate_left
  ·show Act.put _ (some 9) _ = _; simp only [Act.put, List.setIfInBounds_toArray, List.set_cons_zero, List.set_cons_succ, i64_w, i32_w]
   rfl
  refine one_ (i := 3) (N := some 11) (bq 9 15) rfl rfl (by kernel_rfl) (by decide) (fun K hK => ?_); refine goes_ Tryd.func15 (by kernel_rfl) rfl #[.agg #[.string a0_0, .string a0_1, .int .i64 a0_2, .int .i64 a0_3, .string a0_4, .string a0_5, .slice A0_6 l0_6.length c0_6]] (by rfl) rfl rfl pli1_0 ?_; (with_reducible refine (F15.calls k a0_0 a0_1 a0_2 a0_3 a0_4 a0_5 A0_6 c0_6 l0_6 _ _ ?side1 HC0.out HT2.out).mono ?_)
  case side1 => exact Kd.C_below HR0.out HB.out
  rintro e w11 ⟨rfl, hb⟩; refine ⟨_, rfl, ?_⟩; have HX2 := Aside0.mk (blk_below hX.out hb); have HB2 := Aside0.mk (below_then HB.out HB.out.size hb); clear hX HB hb; have hX := HX2; have HB := HB2; clear HX2 HB2; refine hK.out _ _ hX.out (fun hHeld => ?_); clear hK K; refine norm_ (a' := ?_) ?_ ?_; rotate_left
  ·show Act.put _ (some 11) _ = _; simp only [Act.put, List.setIfInBounds_toArray, List.set_cons_zero, List.set_cons_succ, i64_w, i32_w]
   rfl
  refine pure_ (i := 4) (N := some 12) (v := ?_) (a' := ?_) (bq 9 31) rfl rfl (by kernel_rfl) (fun _ _ _ h => h) (Or.inl ⟨by rfl, ?_⟩) ?_ ?_; rotate_left
  ·intro w'; go_simp; with_reducible rfl
  rotate_left
  ·exact cbb2_0
  refine pure_ (i := 5) (N := some 13) (v := ?_) (a' := ?_) (bq 9 63) rfl rfl (by kernel_rfl) (fun _ _ _ h => h) (Or.inl ⟨by rfl, ?_⟩) ?_ ?_; rotate_left
  ·intro w'; go_simp; with_reducible rfl
  rotate_left
  ·exact cbb2_0
  refine one_ (i := 6) (N := some 14) (bq 9 127) rfl rfl (by kernel_rfl) (by decide) (fun K hK => ?_); refine goes_ Tryd.func13 (by kernel_rfl) rfl #[] (by rfl) rfl rfl pli1_0 ?_; (with_reducible refine (F13.calls k A1 c1 l1 _ _ ?side1 HC1.out HT3.out).mono ?_)
  case side1 => exact Kd.C_below HR1.out HB.out
  rintro e w14 ⟨rfl, hb⟩; refine ⟨_, rfl, ?_⟩; have HX2 := Aside0.mk (blk_below hX.out hb); have HB2 := Aside0.mk (below_then HB.out HB.out.size hb); clear hX HB hb; have hX := HX2; have HB := HB2; clear HX2 HB2; refine hK.out _ _ hX.out (fun hHeld => ?_); clear hK K; refine norm_ (a' := ?_) ?_ ?_; rotate_left
  ·show Act.put _ (some 14) _ = _; simp only [Act.put, List.setIfInBounds_toArray, List.set_cons_zero, List.set_cons_succ, i64_w, i32_w]
   rfl
  refine pure_ (i := 7) (N := some 15) (v := ?_) (a' := ?_) (bq 9 255) rfl rfl (by kernel_rfl) (fun _ _ _ h => h) (Or.inl ⟨by rfl, ?_⟩) ?_ ?_; rotate_left
  ·intro w'; go_simp; with_reducible rfl
  rotate_left
  ·exact cbb2_0
  refine pure_ (i := 8) (N := some 2) (v := ?_) (a' := ?_) (bq 9 511) rfl rfl (by kernel_rfl) (fun _ _ _ h => h) (Or.inl ⟨by rfl, ?_⟩) ?_ ?_; rotate_left
  ·intro w'; go_simp; with_reducible rfl
  rotate_left
  ·exact cbb2_0
  refine done_ (by kernel_rfl) ?_
  go_wp2
  go_ret
  exact ⟨rfl, HB.out⟩
/-- THE ONE PURE STATEMENT of F3. -/
def F3.Pure : Prop := ∀ (x0 : S24), (G24 x0) → ∃ k, F3.f k x0.f0 x0.f1 x0.f2 x0.f3 x0.f4 x0.f5 x0.f6 months = some true
end Go.Proofs.YtjeecehhcajfaaaDoor.M
end
section
namespace Go.Proofs.YtjeecehhcajfaaaDoor.M
open Go.RowKit Go.Proofs.YtjeecehhcajfaaaDoorW.PrintWords Go.Proofs.YtjeecehhcajfaaaDoorW.PrintLast
set_option linter.unusedVariables false
set_option linter.unusedSimpArgs false
def capv (b : ByteArray) : Nat → Nat → Bool
 | 0, _ => true
 | n + 1, i => (decide (65 ≤ bt b (i : Int)) && decide (bt b (i : Int) ≤ 90)) && capv b n (i + 1)
theorem capv_all (b : ByteArray) : ∀ n i, i + n = b.size → capv b n i = (b.data.toList.drop i).all capital
 | 0, i, h => by
  have : b.data.toList.drop i = [] := List.drop_eq_nil_of_le (by simp; omega); rw [this]; rfl
 | n + 1, i, h => by
  have hi : i < b.data.toList.length := by simp; omega
  rw [List.drop_eq_getElem_cons hi, List.all_cons, ← capv_all b n (i + 1) (by omega), capv]
  congr 1
  unfold capital bt
  have h2 : i < b.size := by omega
  simp only [Int.toNat_natCast, h2, dif_pos]
  rfl
def moneyv (b : ByteArray) : Bool := decide (b.size = 3) && capv b 3 0
theorem F35.eq (b : ByteArray) (hb : b.size ≤ 1000000000000000) : F35.f b = some (moneyv b) := by
 unfold F35.f moneyv
 have hw : wrap64 (b.size : Int) = (b.size : Int) := w64 (by omega) (by omega); rw [hw]
 by_cases c : b.size = 3
 ·rw [decide_eq_true c, decide_eq_true (show (b.size : Int) = 3 by omega), Bool.and_true, Bool.true_and, capv_all b 3 0 (by omega)]
  rfl
 ·rw [decide_eq_false c, decide_eq_false (show ¬ (b.size : Int) = 3 by omega), Bool.and_false, Bool.false_and]
theorem ref07.go (b : ByteArray) (hb : b.size = 3) : ∀ n i : Nat, i + n = 3 → Ev (fun k => F40.l0 k b (i : Int)) (capv b n i)
 | 0, i, h => by
  refine Ev.succ ?_; simp only [F40.l0, if_neg (show ¬ (i : Int) < 3 by omega), capv]; exact Ev.const _
 | n + 1, i, h => by
  have ih := ref07.go b hb n (i + 1) (by omega); refine Ev.succ ?_; simp only [F40.l0, if_pos (show (i : Int) < 3 by omega), if_pos (show (0 : Int) ≤ (i : Int) by omega), if_pos (show (i : Int) < (b.size : Int) by omega), capv, w64s (show i ≤ 1000000000 by omega)]
  by_cases c1 : bt b (i : Int) < 65
  ·simp only [if_pos c1, decide_eq_false (show ¬ 65 ≤ bt b (i : Int) by omega), Bool.false_and]; exact Ev.const _
  ·simp only [if_neg c1, decide_eq_true (show 65 ≤ bt b (i : Int) by omega), Bool.true_and]
   by_cases c2 : bt b (i : Int) > 90
   ·simp only [if_pos c2, decide_eq_false (show ¬ bt b (i : Int) ≤ 90 by omega), Bool.false_and]; exact Ev.const _
   ·simp only [if_neg c2, decide_eq_true (show bt b (i : Int) ≤ 90 by omega), Bool.true_and]; exact ih
theorem ref07.eq (b : ByteArray) : Ev (fun k => F40.f k b) (moneyv b) := by
 unfold F40.f moneyv
 by_cases c : b.size = 3
 ·simp only [if_pos (show (b.size : Int) = 3 by omega), decide_eq_true c, Bool.true_and]; exact ref07.go b c 3 0 (by omega)
 ·simp only [if_neg (show ¬ (b.size : Int) = 3 by omega), decide_eq_false c, Bool.false_and]; exact Ev.const _
def optv (b : ByteArray) : Bool := decide (b.size = 0) || codev b
theorem optional.eq (b : ByteArray) : Ev (fun k => F34.f k b) (optv b) := by
 unfold F34.f optv
 simp only [size_nil]
 by_cases c : b.size = 0
 ·simp only [if_pos c, decide_eq_true c, Bool.true_or]; exact Ev.const _
 ·simp only [if_neg c, decide_eq_false c, Bool.false_or]; exact Ev.bind (F33.eq b) (Ev.const _)
theorem refOptional.eq (b : ByteArray) (hb : b.size ≤ 1000000000000000) : Ev (fun k => F39.f k b) (optv b) := by
 unfold F39.f optv
 simp only [size_nil]
 by_cases c : b.size = 0
 ·simp only [if_pos c, decide_eq_true c, Bool.true_or]; exact Ev.const _
 ·simp only [if_neg c, decide_eq_false c, Bool.false_or]; exact Ev.bind (F38.eq b hb) (Ev.const _)
def withv (a : Int) : Bool := decide (a ≥ -1000000000000) && decide (a ≤ 1000000000000)
theorem within.eq (a : Int) : F36.f a 1000000000000 = some (withv a) := by
 unfold F36.f withv
 rw [show wrap64 (-1000000000000) = -1000000000000 from w64 (by omega) (by omega)]
 by_cases c : a ≥ -1000000000000
 ·rw [if_pos c, decide_eq_true c, Bool.true_and]
 ·rw [if_neg c, decide_eq_false c, Bool.false_and]
theorem refWithin.eq (a : Int) : F41.f a 1000000000000 = some (withv a) := by
 unfold F41.f withv
 rw [show wrap64 (-1000000000000) = -1000000000000 from w64 (by omega) (by omega)]
 by_cases c : a ≥ -1000000000000
 ·rw [if_pos c, decide_eq_true c, Bool.true_and]
 ·rw [if_neg c, decide_eq_false c, Bool.false_and]
def tagv (t : Tg) : Bool := codev t.f0 && codev t.f1
def dimv (l : List Tg) : Nat → Nat → Bool
 | 0, _ => true
 | n + 1, i => tagv (rd_T101 l (i : Int)) && ((decide (i = 0) || Op.bytesLess (rd_T101 l ((i : Int) - 1)).f0.toList (rd_T101 l (i : Int)).f0.toList) && dimv l n (i + 1))
def rightv (l : List Tg) : Bool := dimv l l.length 0 && decide ((l.length : Int) ≤ 6)
theorem codes.eq (t : Tg) : Ev (fun k => F66.f k t.f0 t.f1) (tagv t) := by
 unfold F66.f tagv
 refine Ev.bind (F33.eq t.f0) ?_
 cases codev t.f0 with
 | true => simp only [if_true, Bool.true_and]; exact Ev.bind (F33.eq t.f1) (Ev.const _)
 | false => simp only [Bool.false_eq_true, if_false, Bool.false_and]; exact Ev.const _
theorem named.eq (t : Tg) (h : t.f0.size ≤ 1000000000000000 ∧ t.f1.size ≤ 1000000000000000) : Ev (fun k => F69.f k t.f0 t.f1) (tagv t) := by
 unfold F69.f tagv
 refine Ev.bind (F38.eq t.f0 h.1) ?_
 cases codev t.f0 with
 | true => simp only [if_true, Bool.true_and]; exact Ev.bind (F38.eq t.f1 h.2) (Ev.const _)
 | false => simp only [Bool.false_eq_true, if_false, Bool.false_and]; exact Ev.const _
theorem rd101_mem {a : List Tg} {i : Nat} (h : i < a.length) : rd_T101 a (i : Int) ∈ a := by
 have e1 : rd_T101 a (i : Int) = a[i] := by simp [rd_T101, h]
 rw [e1]; exact List.getElem_mem h
theorem right.go (l : List Tg) (hl : l.length ≤ 1000000) : ∀ n i, i + n = l.length → Ev (fun k => F37.l0 k l l (l.length : Int) (i : Int)) (dimv l n i)
 | 0, i, h => by
  refine Ev.succ ?_; simp only [F37.l0, if_neg (show ¬ (i : Int) < (l.length : Int) by omega), dimv]; exact Ev.const _
 | n + 1, i, h => by
  have ih := right.go l hl n (i + 1) (by omega); refine Ev.succ ?_; simp only [F37.l0, if_pos (show (i : Int) < (l.length : Int) by omega), if_pos (show (0 : Int) ≤ (i : Int) by omega), dimv, w64s (show i ≤ 1000000000 by omega)]; refine Ev.bind (codes.eq _) ?_
  cases tagv (rd_T101 l (i : Int)) with
  | false => simp only [Bool.false_eq_true, if_false, Bool.false_and]; exact Ev.const _
  | true =>
   simp only [if_true, Bool.true_and]
   by_cases c : i = 0
   ·simp only [if_neg (show ¬ (i : Int) > 0 by omega), decide_eq_true c, Bool.true_or, Bool.true_and]; exact ih
   ·rw [w64 (n := (i : Int) - 1) (by omega) (by omega)]; simp only [if_pos (show (i : Int) > 0 by omega), if_pos (show 0 ≤ (i : Int) - 1 by omega), if_pos (show (i : Int) - 1 < (l.length : Int) by omega), decide_eq_false c, Bool.false_or]
    by_cases d : Op.bytesLess (rd_T101 l ((i : Int) - 1)).f0.toList (rd_T101 l (i : Int)).f0.toList = true
    ·simp only [d, if_true, Bool.true_and]; exact ih
    ·have d2 : Op.bytesLess (rd_T101 l ((i : Int) - 1)).f0.toList (rd_T101 l (i : Int)).f0.toList = false := by simpa using d
     simp only [d2, Bool.false_eq_true, if_false, Bool.false_and]; exact Ev.const _
theorem right.eq (l : List Tg) (hl : l.length ≤ 1000000) : Ev (fun k => F37.f k l) (rightv l) := by
 unfold F37.f rightv
 by_cases c : (l.length : Int) > 6
 ·simp only [if_pos c, decide_eq_false (show ¬ (l.length : Int) ≤ 6 by omega), Bool.and_false]; exact Ev.const _
 ·simp only [if_neg c, decide_eq_true (show (l.length : Int) ≤ 6 by omega), Bool.and_true]; exact right.go l hl l.length 0 (by omega)
theorem refRight.go (l : List Tg) (hl : l.length ≤ 1000000) (ht : ∀ t ∈ l, t.f0.size ≤ 1000000000000000 ∧ t.f1.size ≤ 1000000000000000) : ∀ n i, i + n = l.length → Ev (fun k => F42.l0 k l (i : Int)) (dimv l n i && decide ((l.length : Int) ≤ 6))
 | 0, i, h => by
  refine Ev.succ ?_; simp only [F42.l0, if_neg (show ¬ (i : Int) < (l.length : Int) by omega), dimv, Bool.true_and]; exact Ev.const _
 | n + 1, i, h => by
  have ih := refRight.go l hl ht n (i + 1) (by omega); refine Ev.succ ?_; simp only [F42.l0, if_pos (show (i : Int) < (l.length : Int) by omega), if_pos (show (0 : Int) ≤ (i : Int) by omega), dimv, w64s (show i ≤ 1000000000 by omega)]; refine Ev.bind (named.eq _ (ht _ (rd101_mem (by omega)))) ?_
  cases tagv (rd_T101 l (i : Int)) with
  | false => simp only [Bool.false_eq_true, if_false, Bool.false_and]; exact Ev.const _
  | true =>
   simp only [if_true, Bool.true_and]
   by_cases c : i = 0
   ·simp only [if_neg (show ¬ (i : Int) > 0 by omega), decide_eq_true c, Bool.true_or, Bool.true_and]; exact ih
   ·rw [w64 (n := (i : Int) - 1) (by omega) (by omega)]; simp only [if_pos (show (i : Int) > 0 by omega), if_pos (show 0 ≤ (i : Int) - 1 by omega), if_pos (show (i : Int) - 1 < (l.length : Int) by omega), decide_eq_false c, Bool.false_or]
    by_cases d : Op.bytesLess (rd_T101 l ((i : Int) - 1)).f0.toList (rd_T101 l (i : Int)).f0.toList = true
    ·simp only [d, if_true, Bool.true_and]; exact ih
    ·have d2 : Op.bytesLess (rd_T101 l ((i : Int) - 1)).f0.toList (rd_T101 l (i : Int)).f0.toList = false := by simpa using d
     simp only [d2, Bool.false_eq_true, if_false, Bool.false_and]; exact Ev.const _
theorem refRight.eq (l : List Tg) (hl : l.length ≤ 1000000) (ht : ∀ t ∈ l, t.f0.size ≤ 1000000000000000 ∧ t.f1.size ≤ 1000000000000000) : Ev (fun k => F42.f k l) (rightv l) := by
 unfold F42.f rightv
 exact refRight.go l hl ht l.length 0 (by omega)
def linev (x : Li) : Int := if codev x.f0 = true ∧ optv x.f4 = true ∧ optv x.f5 = true then (if moneyv x.f1 = true then (if withv x.f2 = true ∧ withv x.f3 = true then (if x.f2 = 0 ∧ x.f3 = 0 then 2 else if rightv x.f6 = true then 0 else 14) else 4) else 13) else 7
theorem line.j2 (x : Li) (hx : okL x) (b : Bool) : Ev (fun k => F14.j2 k b x.f0 x.f1 x.f2 x.f3 x.f4 x.f5 x.f6) (if b = true then 2 else if rightv x.f6 = true then 0 else 14) := by
 refine Ev.succ ?_; simp only [F14.j2]
 cases b with
 | true => simp only [if_true]; exact Ev.const _
 | false =>
  simp only [Bool.false_eq_true, if_false]; refine Ev.bind (right.eq x.f6 (by have := hx.2.2.2.2.1; omega)) ?_
  cases rightv x.f6 with
  | true => simp only [if_true]; exact Ev.const _
  | false => simp only [Bool.false_eq_true, if_false]; exact Ev.const _
theorem line.j1 (x : Li) (hx : okL x) (b : Bool) : Ev (fun k => F14.j1 k b x.f0 x.f1 x.f2 x.f3 x.f4 x.f5 x.f6) (if b = true then 4 else if x.f2 = 0 ∧ x.f3 = 0 then 2 else if rightv x.f6 = true then 0 else 14) := by
 refine Ev.succ ?_; simp only [F14.j1]
 cases b with
 | true => simp only [if_true]; exact Ev.const _
 | false =>
  simp only [Bool.false_eq_true, if_false]
  by_cases c2 : x.f2 = 0
  ·simp only [if_pos c2]; have h := line.j2 x hx (x.f3 == 0)
   by_cases c3 : x.f3 = 0
   ·rw [if_pos ⟨c2, c3⟩]; simpa [c3] using h
   ·rw [if_neg (fun h => c3 h.2)]; simpa [c3] using h
  ·simp only [if_neg c2]; have h := line.j2 x hx false; rw [if_neg (fun h => c2 h.1)]; simpa using h
theorem line.j0 (x : Li) (hx : okL x) (b : Bool) : Ev (fun k => F14.j0 k b x.f0 x.f1 x.f2 x.f3 x.f4 x.f5 x.f6) (if b = true then 7 else if moneyv x.f1 = true then (if withv x.f2 = true ∧ withv x.f3 = true then (if x.f2 = 0 ∧ x.f3 = 0 then 2 else if rightv x.f6 = true then 0 else 14) else 4) else 13) := by
 refine Ev.succ ?_; simp only [F14.j0]
 cases b with
 | true => simp only [if_true]; exact Ev.const _
 | false =>
  simp only [Bool.false_eq_true, if_false, F35.eq x.f1 hx.2.1, Option.bind_some, within.eq]
  cases moneyv x.f1 with
  | false => simp only [Bool.false_eq_true, if_false]; exact Ev.const _
  | true =>
   simp only [if_true]
   cases h2 : withv x.f2 with
   | false =>
    have h := line.j1 x hx true
    simpa using h
   | true =>
    simp only [if_true]
    cases h3 : withv x.f3 with
    | false => have h := line.j1 x hx true; simpa using h
    | true => have h := line.j1 x hx false; simpa using h
theorem F14.eq (x : Li) (hx : okL x) : Ev (fun k => F14.f k x.f0 x.f1 x.f2 x.f3 x.f4 x.f5 x.f6) (linev x) := by
 unfold F14.f linev
 refine Ev.bind (F33.eq x.f0) ?_
 cases codev x.f0 with
 | false => have h := line.j0 x hx true; simpa using h
 | true =>
  simp only [if_true]; refine Ev.bind (optional.eq x.f4) ?_
  cases optv x.f4 with
  | false => have h := line.j0 x hx true; simpa using h
  | true =>
   simp only [if_true]; refine Ev.bind (optional.eq x.f5) ?_
   cases optv x.f5 with
   | false => have h := line.j0 x hx true; simpa using h
   | true => have h := line.j0 x hx false; simpa using h
theorem refLine.j2 (x : Li) (hx : okL x) (b : Bool) : Ev (fun k => F15.j2 k b x.f0 x.f1 x.f2 x.f3 x.f4 x.f5 x.f6) (if b = true then 2 else if rightv x.f6 = true then 0 else 14) := by
 refine Ev.succ ?_; simp only [F15.j2]
 cases b with
 | true => simp only [if_true]; exact Ev.const _
 | false =>
  simp only [Bool.false_eq_true, if_false]; refine Ev.bind (refRight.eq x.f6 (by have := hx.2.2.2.2.1; omega) hx.2.2.2.2.2) ?_
  cases rightv x.f6 with
  | true => simp only [if_true]; exact Ev.const _
  | false => simp only [Bool.false_eq_true, if_false]; exact Ev.const _
theorem refLine.j1 (x : Li) (hx : okL x) (b : Bool) : Ev (fun k => F15.j1 k b x.f0 x.f1 x.f2 x.f3 x.f4 x.f5 x.f6) (if b = true then 4 else if x.f2 = 0 ∧ x.f3 = 0 then 2 else if rightv x.f6 = true then 0 else 14) := by
 refine Ev.succ ?_; simp only [F15.j1]
 cases b with
 | true => simp only [if_true]; exact Ev.const _
 | false =>
  simp only [Bool.false_eq_true, if_false]
  by_cases c2 : x.f2 = 0
  ·simp only [if_pos c2]; have h := refLine.j2 x hx (x.f3 == 0)
   by_cases c3 : x.f3 = 0
   ·rw [if_pos ⟨c2, c3⟩]; simpa [c3] using h
   ·rw [if_neg (fun h => c3 h.2)]; simpa [c3] using h
  ·simp only [if_neg c2]; have h := refLine.j2 x hx false; rw [if_neg (fun h => c2 h.1)]; simpa using h
theorem refLine.j0 (x : Li) (hx : okL x) (b : Bool) : Ev (fun k => F15.j0 k b x.f0 x.f1 x.f2 x.f3 x.f4 x.f5 x.f6) (if b = true then 7 else if moneyv x.f1 = true then (if withv x.f2 = true ∧ withv x.f3 = true then (if x.f2 = 0 ∧ x.f3 = 0 then 2 else if rightv x.f6 = true then 0 else 14) else 4) else 13) := by
 refine Ev.succ ?_; simp only [F15.j0]
 cases b with
 | true => simp only [if_true]; exact Ev.const _
 | false =>
  simp only [Bool.false_eq_true, if_false, refWithin.eq, Option.bind_some]; refine Ev.bind (ref07.eq x.f1) ?_
  cases moneyv x.f1 with
  | false => simp only [Bool.false_eq_true, if_false]; exact Ev.const _
  | true =>
   simp only [if_true]
   cases h2 : withv x.f2 with
   | false =>
    have h := refLine.j1 x hx true
    simpa using h
   | true =>
    simp only [if_true]
    cases h3 : withv x.f3 with
    | false => have h := refLine.j1 x hx true; simpa using h
    | true => have h := refLine.j1 x hx false; simpa using h
theorem F15.eq (x : Li) (hx : okL x) : Ev (fun k => F15.f k x.f0 x.f1 x.f2 x.f3 x.f4 x.f5 x.f6) (linev x) := by
 unfold F15.f linev
 refine Ev.bind (F38.eq x.f0 hx.1) ?_
 cases codev x.f0 with
 | false => have h := refLine.j0 x hx true; simpa using h
 | true =>
  simp only [if_true]; refine Ev.bind (refOptional.eq x.f4 hx.2.2.1) ?_
  cases optv x.f4 with
  | false => have h := refLine.j0 x hx true; simpa using h
  | true =>
   simp only [if_true]; refine Ev.bind (refOptional.eq x.f5 hx.2.2.2.1) ?_
   cases optv x.f5 with
   | false => have h := refLine.j0 x hx true; simpa using h
   | true => have h := refLine.j0 x hx false; simpa using h
end Go.Proofs.YtjeecehhcajfaaaDoor.M
end
section
namespace Go.Proofs.YtjeecehhcajfaaaDoor.M
open Go.RowKit Go.Proofs.YtjeecehhcajfaaaDoorW.PrintWords Go.Proofs.YtjeecehhcajfaaaDoorW.PrintLast
set_option linter.unusedVariables false
theorem pure_EntryLine : F3.Pure := by
 intro x hx; refine Ev.out (g := fun k => F3.f k x.f0 x.f1 x.f2 x.f3 x.f4 x.f5 x.f6 months) ?_
 unfold F3.f
 obtain ⟨b, hb, hb2⟩ := F12.ok [x]; refine Ev.bind hb ?_
 cases b with
 | false =>
  simp only [Bool.false_eq_true, if_false]; exact F13.true
 | true =>
  simp only [if_true]; have ha : okL x := G24_ok hx ((hb2 rfl).2 x (by simp)); refine Ev.bind (F14.eq x ha) (Ev.bind (F15.eq x ha) ?_); simp only [if_true]; exact F13.true
end Go.Proofs.YtjeecehhcajfaaaDoor.M
namespace Go.Proofs.YtjeecehhcajfaaaDoor.Pure
theorem EntryLine : M.F3.Pure := M.pure_EntryLine
end Go.Proofs.YtjeecehhcajfaaaDoor.Pure
end
section
namespace Go.Proofs.YtjeecehhcajfaaaDoor.M
open Go.ChangeShapes Go.WideShapes Go.ChangeAt Go.RowKit Go.Proofs.YtjeecehhcajfaaaDoorW.PrintWords Go.Proofs.YtjeecehhcajfaaaDoorW.PrintLast
abbrev laidL : List (String × DataW Unit) := [("accounting/days.lengths", Rows.laid_accounting_days_lengths)]
theorem gLen : Tryd.prog.globalNamed "accounting/days.lengths" = some 0 := by kernel_rfl
theorem tLen : (Tryd.prog.globals[0]?).map (·.type) = some 136 := by kernel_rfl
theorem cLen : Tryd.prog.cellsOf 136 = 12 := by kernel_rfl
theorem cInt : Tryd.prog.cellsOf 3 = 1 := by kernel_rfl
set_option maxRecDepth 100000 in
theorem tab_of_laid {W : World} (h : laidMetH Tryd.prog laidL W) : Tab W := by
 rw [MakeChecks.laidMetH_plain _ _ _ (by kernel_rfl)] at h; obtain ⟨ps, ⟨g0, t0, cs0, f0, p0, q0, hg0, ht0, hv0, hd0, _⟩, _⟩ := h; obtain rfl := Option.some.inj (gLen.symm.trans hg0); obtain rfl := Option.some.inj (tLen.symm.trans ht0); obtain ⟨xs, m1, rfl, hx1, hlen, hn3, hel⟩ := DataW.trod_array Tryd.underlying136 hd0
 have hxs : xs.map (·.1) = months.map (fun n => (DataW.lit (.int .i64 n) : DataW Unit)) := by
  have e := congrArg (fun y : DataW Unit × List MemPlace => y.1) hx1
  unfold Rows.laid_accounting_days_lengths at e
  injection e with e
  exact e.symm
 have each : ∀ i, i < 12 → cs0.toList[i]? = (months[i]?).map (Value.int .i64) := by
  intro i hi; have h1 := hel i hi; rw [cInt, Nat.mul_one] at h1; obtain ⟨x, hx⟩ : ∃ x, xs[i]? = some x := ⟨xs[i], List.getElem?_eq_getElem (by omega)⟩; rw [hx] at h1; obtain ⟨n, e1, e2, _⟩ := DataW.trod_int Tryd.underlying3 h1; have e3 := congrArg (fun l => l[i]?) hxs; simp only [List.getElem?_map, hx, Option.map_some, e2] at e3; have e4 := congrArg (fun l => l[0]?) e1; simp only [List.getElem?_take, List.getElem?_drop, Nat.add_zero, Nat.zero_lt_one, if_true, List.getElem?_cons_zero] at e4; rw [e4]
  cases hm : months[i]? with
  | none => rw [hm] at e3; cases e3
  | some m =>
   rw [hm] at e3; simp only [Option.map_some, Option.some.injEq, DataW.lit.injEq, Lit.int.injEq, true_and] at e3; rw [e3]
   rfl
 have hcs : cs0 = (months.map (Value.int .i64)).toArray := by
  rw [← Array.toList_inj]; apply List.ext_getElem?; intro i
  by_cases hi : i < 12
  ·rw [each i hi, List.getElem?_map]
  ·rw [List.getElem?_eq_none (by rw [hlen, cLen]; omega), List.getElem?_eq_none (by simp [months]; omega)]
 have hv := hv0; simp only [World.var?, gLen, Option.bind_some] at hv
 split at hv
 ·rename_i cs t fr hb
  obtain rfl := Option.some.inj hv; exact ⟨t, fr, by rw [hb, hcs]⟩
 ·cases hv
theorem door_met (os : Os) (args : Array Value) : laidMetH Tryd.prog laidL ((World.doorLaid Tryd.prog 400 os).forCall (fun _ _ => 0) ⟨#[], args, []⟩).memory :=
 laidMetH_of_parts3 (fuel := 8) (laidMet_of_run' 8 (by kernel_rfl) (by kernel_rfl)) (by kernel_rfl) (by kernel_rfl)
end Go.Proofs.YtjeecehhcajfaaaDoor.M
end
section
namespace Go.Proofs.YtjeecehhcajfaaaDoor.entryLine
open Go.ChangeShapes Go.WideShapes Go.ChangeAt Go.RowKit Go.Proofs.YtjeecehhcajfaaaDoor.M Go.Proofs.YtjeecehhcajfaaaDoorW.PrintWords Go.Proofs.YtjeecehhcajfaaaDoorW.PrintLast
open Go.ChangeMaps (open_string shut_string)
set_option linter.unusedVariables false
theorem own : ownKnob Tryd.prog.godebug = none := by kernel_rfl
theorem laidOut : laidOutB Tryd.prog = true := by kernel_rfl
set_option maxRecDepth 100000 in
set_option maxHeartbeats 4000000 in
theorem lifted (os : Os) (started : os.Started) (H : Type) (enc : TypeId × Value → H) :
  ReturnsInHanded {} Tryd.checked os 3 .any (fun w args => (Rows.entryLineSpec.pre enc Tryd.prog Tryd.f3 Rows.entryLineRow.domain false w args ∧ laidMetH Tryd.prog Rows.entryLineRow.laid w) ∧ sizedMet enc Tryd.prog Tryd.f3 (OpenSpec.ofChange Rows.entryLineSpec) false w args) (Rows.entryLineSpec.post enc Tryd.prog Tryd.f3 false true false false) := by
 refine returnsInHanded_of_change_and (C := Tryd.checked) (X := fun w _ => laidMetH Tryd.prog Rows.entryLineRow.laid w) (fun _ _ _ hh h => h.of_heap hh) own started (by kernel_rfl) Tryd.func3
  (ChangeSpec.witness_shaped (enc := enc) (C := Tryd.checked) (os := os) (X := fun w _ => laidMetH Tryd.prog Rows.entryLineRow.laid w) false (World.doorLaid Tryd.prog 400 os) #[.agg #[.string ByteArray.empty, .string ByteArray.empty, .int .i64 0, .int .i64 0, .string ByteArray.empty, .string ByteArray.empty, .slice none 0 0]] 8 rfl (World.shaped_of_RefB (by kernel_rfl) (by kernel_rfl)) (by kernel_rfl) (by kernel_rfl) (by kernel_rfl) (door_met os _)) ?_
 intro W base args ds gs before hval0 hW hcnd hsz0 hL _; have hsz : (DataW.weightsEach Tryd.prog (Tryd.f3.params.toList ++ Rows.entryLineSpec.plain.varTypes Tryd.prog) (ds ++ gs)).all (· ≤ reachBytes) = true := hsz0; have hval : ∀ (j : Nat) t v, Tryd.f3.params[j]? = some t → args[j]? = some v → Value.okWide Tryd.prog W .any base t v := hval0; have hW' := hW; obtain ⟨p, q, hA0, hV, rfl, hfz, hnd⟩ := hW; have hA : DataW.TrodAll enc Tryd.prog W 0 (fun _ => true) true Tryd.f3.params.toList args.toList ds p := hA0; rw [Tryd.params3] at hA hval hsz; obtain ⟨v0, vs0, d0, ds0, p0, q0, hargs, rfl, rfl, h0, r0⟩ := trodAll_cons hA; obtain ⟨rfl, rfl, rfl⟩ := trodAll_nil r0; obtain rfl : args = #[v0] := by cases args; simp_all
 obtain ⟨rfl, rfl⟩ := trodVars_none hV; obtain ⟨cs0, rfl⟩ : ∃ cs, v0 = .agg cs := by have z := (hval 0 24 v0 rfl rfl); simp only [Value.okWide, Tryd.underlying24] at z; obtain ⟨cs, e, _⟩ := z; exact ⟨cs, e⟩
 have k0 := h0; have lt0 : ∀ x ∈ p0, x.block < W.heap.size := by obtain ⟨m, hm⟩ := k0; exact DataW.trod_lt m _ _ _ hm
 obtain ⟨x0, K0, g0⟩ : ∃ x_ : S24, k24.K W x_ cs0.toList ∧ (G24 x_) := by obtain ⟨f, hf⟩ := h0; exact (opens24).get enc W 0 _ _ f _ _ hf (weights_at hsz (j := 0) (t := 24) rfl rfl)
 obtain ⟨A0_6, c0_6, e0, L0_6, C0_6⟩ := k24_open K0; obtain rfl : cs0 = #[.string x0.f0, .string x0.f1, .int .i64 x0.f2, .int .i64 x0.f3, .string x0.f4, .string x0.f5, .slice A0_6 x0.f6.length c0_6] := by rw [← Array.toList_inj]; exact e0
 clear hA0 hval0 hsz0 hsz; obtain ⟨k, h⟩ := Pure.EntryLine x0 g0; refine (M.F3.calls (k := k) (r := true) (w := W) (hr0_6 := C0_6) (hc0_6 := L0_6) (hr1 := kTab_of (tab_of_laid hL)) (hc1 := Nat.le_refl _) (h := h)).mono fun e W' ⟨he, bel0⟩ => ?_; have bel : Below W.heap.size W W' := by first | exact bel0 | exact bel0.below | (obtain ⟨nd, rfl⟩ := bel0; exact pw_below_drewN (Below.refl _ _) nd)
 subst he; exact ⟨_, rfl, _, _, _, [], _, [], hW', trodAll_mk1 (shut_bool Tryd.underlying4 _), (trodAll_cons_mk (Below.trod laidOut (by kernel_rfl) (of_decide_eq_true (by kernel_rfl)) k0 bel lt0) trodAll_mk0), rfl, bel.frame _, fun h => by cases h⟩
theorem over : Rows.entryLineRow.holds Tryd.pinned (OpenSpec.ofChange Rows.entryLineSpec) :=
 OpenClaim.holds_of_wide 3 Tryd.f3 rfl rfl rfl rfl rfl rfl rfl ⟨rfl, rfl, rfl, rfl, rfl⟩ rfl rfl rfl rfl rfl (by kernel_rfl) Tryd.func3 (by kernel_rfl)
  (of_decide_eq_true (by kernel_rfl)) (by unfold Func.isWrapper; first | (rw [if_pos (by decide +kernel)]; kernel_rfl) | (rw [if_neg (by decide +kernel)]; exact ⟨rfl, rfl⟩))
  (fun os started H enc _ => lifted os started H enc)
theorem proved : Rows.EntryLineCardSaid :=
 Claim7.holds_tied_plain_at .later [] [.data] true (true, "be3c0a6bf7d168cfecf7312c4a458ffdf88559f71113c4694bf92cbd7a7be984") false
  over (fun _ h => by cases h) (by kernel_rfl) (fun _ h => by cases h) entryLine_row_tie rfl ⟨rfl, rfl⟩ (by kernel_rfl) rfl
  (fun f fn hf hfn => by
   obtain rfl : f = 3 := Option.some.inj ((show Tryd.prog.funcNamed "accounting/accountinglaw12.EntryLine" = some 3 by kernel_rfl).symm.trans hf) |>.symm; obtain rfl : fn = Tryd.f3 := (Option.some.inj (Tryd.func3.symm.trans hfn)).symm
   exact ⟨by kernel_rfl, fun j t ht => by
    rw [Tryd.params3] at ht; have hm : t ∈ [24] := by simpa using Array.mem_of_getElem? ht
    have hall : ([24].all fun u => !Tryd.prog.wantsStandIn u) = true := by kernel_rfl
    exact (show Tryd.prog.wantsStandIn t = false by simpa using List.all_eq_true.1 hall t hm)⟩)
  (by kernel_rfl)
#print axioms proved
end Go.Proofs.YtjeecehhcajfaaaDoor.entryLine
namespace Go.Proofs.YtjeecehhcajfaaaDoor
theorem entryLine_holds : Rows.EntryLineCardSaid := entryLine.proved
end Go.Proofs.YtjeecehhcajfaaaDoor
end
