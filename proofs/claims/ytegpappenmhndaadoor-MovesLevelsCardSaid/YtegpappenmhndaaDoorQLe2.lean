/- The law of the movements, walked and shown. Part 2 of 2 of what is the claim's own. -/
import Derived.Test.YtegpappenmhndaaDoorQBB1
import Derived.Test.YtegpappenmhndaaDoorQBB2
import Derived.Test.YtegpappenmhndaaDoorQLe1
import Derived.Test.YtegpappenmhndaaDoorQBB3
import Derived.Test.YtegpappenmhndaaDoorQBB8
import Derived.Test.YtegpappenmhndaaDoorRows
import Derived.ProofKit
import Derived.LaidMore
import Derived.OpenShut
import Derived.Stop.Joined
import Derived.WalkKit
import Derived.ShutString
import Derived.ChangeOld
import Derived.Below
import Derived.SizedLaws
import Derived.Test.YtegpappenmhndaaDoorCards
import Derived.Test.YtegpappenmhndaaDoorTie
import Derived.SevenTiedAt
import Derived.Test.YtegpappenmhndaaDoorQBB6
import Derived.Test.YtegpappenmhndaaDoorQBB4
section
namespace Go.Proofs.YtegpappenmhndaaDoor.M
open Go.RowKit Go.Proofs.YtegpappenmhndaaDoorW.PrintWords Go.Proofs.YtegpappenmhndaaDoorW.PrintLast Go.Proofs.YtegpappenmhndaaDoorW.PrintMore
attribute [local go_sem] max2_int min2_int max_two min_two max_three min_three max_four min_four
set_option linter.unusedVariables false
set_option linter.unusedSimpArgs false
def F15.l0 : Nat → List (S23) → Int → Option (Int × Int)
  | 0, _, _ => none
  | k + 1, x0, x4 => if x4 < (x0.length : Int) then (if 0 ≤ x4 then (if ((rd_T23 x0 x4).f0) = (wrap64 (x4 + 1)) then ((F13.f k ((rd_T23 x0 x4).f0) ((rd_T23 x0 x4).f1) ((rd_T23 x0 x4).f2) ((rd_T23 x0 x4).f3) ((rd_T23 x0 x4).f4) ((rd_T23 x0 x4).f5) ((rd_T23 x0 x4).f6) ((rd_T23 x0 x4).f7)).bind fun t103 => (if t103 = 0 then ((F36.f ((rd_T23 x0 x4).f3)).bind fun t105 => (if t105 = true then (if x4 ≤ (x0.length : Int) then ((F38.f k (x0.take (x4 : Int).toNat) ((rd_T23 x0 x4).f0) ((rd_T23 x0 x4).f1) ((rd_T23 x0 x4).f2) ((rd_T23 x0 x4).f3) ((rd_T23 x0 x4).f4) ((rd_T23 x0 x4).f5) ((rd_T23 x0 x4).f6) ((rd_T23 x0 x4).f7)).bind fun t111 => (if t111 = 0 then (F15.l0 k x0 (wrap64 (x4 + 1))) else (some (x4, t111)))) else (none)) else (F15.l0 k x0 (wrap64 (x4 + 1))))) else (some (x4, t103)))) else (some (x4, 17))) else (none)) else (some ((-1), 0))
def F15.f (k : Nat) (l0 : List (S23)) : Option (Int × Int) := if (l0.length : Int) > 2000 then (some (0, 9)) else (F15.l0 k l0 0)
def F15.T12 : Bool × List (List Nat × List Nat) := (true, [([], []), ([], []), ([0, 1], [0, 1]), ([], []), ([], []), ([3, 4], [3, 4]), ([5], [5]), ([2, 6], [2, 6]), ([7, 7, 0, 1, 2, 3, 4, 5, 6, 7], [7])])
def F15.B12 : List Nat := [0, 0, 3, 0, 0, 24, 56, 127, 255]
theorem F15.tab12 : rtab .any (opsOf Tryd.f15 12) = F15.T12 := by kernel_rfl
theorem F15.bits12 : waitsOk F15.T12.2 F15.B12 = true := by kernel_rfl
set_option maxHeartbeats 8000000 in
set_option maxRecDepth 100000 in
theorem F15.calls (k : Nat) (A0 : Option Addr) (c0 : Nat) (l0 : List (S23)) (r1 : Int) (r2 : Int) (w : World) (hr0 : Kd.C k23 w A0 l0.length l0) (hc0 : l0.length ≤ c0) (h : F15.f k l0 = some (r1, r2)) :
    Calls Tryd.prog 15 #[.slice A0 l0.length c0] w fun e w' => e = .returned (.tuple #[.int .i64 r1, .int .i64 r2]) ∧ Below w.heap.size w w' := by
 have hu3 := Tryd.underlying3; have hu23 := Tryd.underlying23; have HR0 := Aside0.mk hr0; have HC0 := Aside0.mk hc0; clear hr0 hc0; have HB := Aside0.mk (Below.refl w.heap.size w)
 unfold F15.f at h
 have H := h; clear h
 by_cases c2 : (l0.length : Int) > 2000
 ·rw [if_pos c2] at H; have c2b0 : decide (2000 < (l0.length : Int)) = true := decide_eq_true c2; have c2b1 : decide (2000 < l0.length) = true := decide_eq_true (by omega); clear c2; simp only [Option.some.injEq, Prod.mk.injEq] at H; obtain ⟨rfl, rfl⟩ := H; go_enter Tryd.func15, Tryd.ntmps15
  go_wp2
  go_ret2
  exact ⟨pbb2_5, pbb2_3⟩
 ·rw [if_neg c2] at H; have c2b0 : decide (2000 < (l0.length : Int)) = false := decide_eq_false c2; have c2b1 : decide (2000 < l0.length) = false := decide_eq_false (by omega); clear c2; have H' := Aside0.mk H; clear H; go_enter Tryd.func15, Tryd.ntmps15
  go_wp2
  go_loopg [4] k (fun kq v4 w' => ∃ (x4_1 : Int), v4 = .int .i64 x4_1 ∧ Aside0 (F15.l0 kq l0 x4_1 = some (r1, r2)) ∧ Aside0 (kq ≤ k) ∧ Aside0 (Below w.heap.size w w'))
  case atStart => exact ⟨(0), pbb2_0, H', ⟨Nat.le_refl _⟩, ⟨pbb2_3⟩⟩
  case round =>
   clear H'; obtain ⟨x4_1, rfl, HA, HK1, HB⟩ := hrel
   cases gk with
   | zero => exact absurd HA.out (by simp [F15.l0])
   | succ k1 =>
    have H := HA.out; clear HA; simp only [F15.l0] at H
    by_cases c3 : x4_1 < (l0.length : Int)
    ·rw [if_pos c3] at H; have c3b0 := decide_eq_true c3; clear c3
     by_cases c4 : 0 ≤ x4_1
     ·rw [if_pos c4] at H; have c4b0 := decide_eq_true c4; clear c4
      by_cases c5 : ((rd_T23 l0 x4_1).f0) = (wrap64 (x4_1 + 1))
      ·rw [if_pos c5] at H; have c5b0 := bT_ c5; have c5b1 := bF_ c5; clear c5; obtain ⟨t103, A60, H⟩ := bnd H; have A6 := Aside0.mk A60; clear A60
       by_cases c7 : t103 = 0
       ·rw [if_pos c7] at H; have c7b0 := bT_ c7; have c7b1 := bF_ c7; clear c7; obtain ⟨t105, A80, H⟩ := bnd H; have A8 := Aside0.mk A80; clear A80
        by_cases c9 : t105 = true
        ·subst c9; rw [if_pos rfl] at H; have c10b0 := eq_true (of_decide_eq_true pbb2_4 : 0 ≤ x4_1)
         by_cases c11 : x4_1 ≤ (l0.length : Int)
         ·rw [if_pos c11] at H; have c11b0 := eq_true c11; have c11b1 := decide_eq_true c11; clear c11; obtain ⟨y106, hy106⟩ : ∃ y_ : List (S23), y_ = (l0.take (x4_1 : Int).toNat) := ⟨_, rfl⟩; replace H : ((F38.f k1 y106 ((rd_T23 l0 x4_1).f0) ((rd_T23 l0 x4_1).f1) ((rd_T23 l0 x4_1).f2) ((rd_T23 l0 x4_1).f3) ((rd_T23 l0 x4_1).f4) ((rd_T23 l0 x4_1).f5) ((rd_T23 l0 x4_1).f6) ((rd_T23 l0 x4_1).f7)).bind fun t111 => (if t111 = 0 then (F15.l0 k1 l0 (wrap64 (x4_1 + 1))) else (some (x4_1, t111)))) = some (r1, r2) := by first | (rw [hy106]; with_reducible exact H) | (have H2_ := (Option.bind_some _ _).symm.trans H; rw [hy106]; with_reducible exact H2_) | (have H2_ := (Option.bind_some _ _).symm.trans H; with_reducible exact H2_) | with_reducible exact H | (rw [hy106]; exact H) | exact H
          have Ny106 := Aside0.mk hy106; clear hy106; obtain ⟨t111, A120, H⟩ := bnd H; have A12 := Aside0.mk A120; clear A120
          by_cases c13 : t111 = 0
          ·rw [if_pos c13] at H; have c13b0 := bT_ c13; have c13b1 := bF_ c13; clear c13; have H' := Aside0.mk H; clear H; have p101 : 0 ≤ (x4_1 : Int) := of_decide_eq_true pbb2_4; have q101 : x4_1 < (l0.length : Int) := of_decide_eq_true pbb2_4; obtain ⟨ad101, e101, hx101_0, hx101_1, hx101_2, hx101_3, hx101_4, hx101_5, hx101_6, hx101_7⟩ := up8 HB.out (at_T23 HR0.out x4_1 p101 q101)
           cases e101
           replace p101 := eq_true p101; replace q101 := eq_true q101; have p102 : 0 ≤ (x4_1 : Int) := of_decide_eq_true pbb2_4; have q102 : x4_1 < (l0.length : Int) := of_decide_eq_true pbb2_4; obtain ⟨ad102, e102, hx102_0, hx102_1, hx102_2, hx102_3, hx102_4, hx102_5, hx102_6, hx102_7⟩ := up8 HB.out (at_T23 HR0.out x4_1 p102 q102); obtain rfl : ad101 = ad102 := (by injection e102); replace p102 := eq_true p102; replace q102 := eq_true q102; (try go_wp2_with (first | ((with_reducible refine gate_callee (f := 13) rfl ?_); refine goesL_ (some 29) rfl rfl Tryd.func13 (by kernel_rfl) rfl #[.agg #[.int .i64 ((rd_T23 l0 x4_1).f0), .int .i64 ((rd_T23 l0 x4_1).f1), .string ((rd_T23 l0 x4_1).f2), .int .i64 ((rd_T23 l0 x4_1).f3), .int .i64 ((rd_T23 l0 x4_1).f4), .int .i64 ((rd_T23 l0 x4_1).f5), .string ((rd_T23 l0 x4_1).f6), .int .i64 ((rd_T23 l0 x4_1).f7)]] rfl pbb2_2 ?_; (with_reducible refine (F13.calls k1 ((rd_T23 l0 x4_1).f0) ((rd_T23 l0 x4_1).f1) ((rd_T23 l0 x4_1).f2) ((rd_T23 l0 x4_1).f3) ((rd_T23 l0 x4_1).f4) ((rd_T23 l0 x4_1).f5) ((rd_T23 l0 x4_1).f6) ((rd_T23 l0 x4_1).f7) t103 _ A6.out).mono ?_); rintro e w14 ⟨rfl, hb⟩; refine ⟨_, rfl, ?_⟩; replace HB := Aside0.mk (below_step pbb2_3 hb); (try clear hb); (try clear hb2); (try clear hk); (try clear hi); have p104 : 0 ≤ (x4_1 : Int) := of_decide_eq_true pbb2_4; have q104 : x4_1 < (l0.length : Int) := of_decide_eq_true pbb2_4; obtain ⟨ad104, e104, hx104_0, hx104_1, hx104_2, hx104_3, hx104_4, hx104_5, hx104_6, hx104_7⟩ := up8 HB.out (at_T23 HR0.out x4_1 p104 q104); obtain rfl : ad101 = ad104 := (by injection e104); replace p104 := eq_true p104; replace q104 := eq_true q104) | ((with_reducible refine gate_callee (f := 36) rfl ?_); refine goesL_ (some 39) rfl rfl Tryd.func36 (by kernel_rfl) rfl #[.int .i64 ((rd_T23 l0 x4_1).f3)] rfl pbb2_2 ?_; (with_reducible refine (F36.calls ((rd_T23 l0 x4_1).f3) true _ A8.out).mono ?_); rintro e w' ⟨rfl, ⟨nd, rfl⟩⟩; refine ⟨_, rfl, ?_⟩))); (try (rw [drewN_self w14]; generalize hq_ : World.drewN w14 _ = w14; have n0_ : Aside0 (Below w.heap.size w w14) := ⟨pbb4_0⟩; clear HB hq_; have HB := n0_; clear n0_)); replace HB := Aside0.mk (below_drew1 HB.out); have q16 : (x4_1 : Int) ≤ ((l0.length : Int) : Int) := of_decide_eq_true pbb2_4; obtain ⟨i016, hi016, _, hsz16, _⟩ := info_parts info23; have hroom16 : l0.length ≤ c0 := HC0.out; have hC16 : Kd.C k23 _ (some ad101) l0.length l0 := HR0.out; have hcut16 := cut_to (P := Tryd.prog) 25 23 .i64 Tryd.underlying25 hi016 (some ad101) l0.length c0 x4_1 (of_decide_eq_true pbb2_4) q16 hroom16; have hr16 := Kd.C_take (m := (x4_1 : Int).toNat) hC16 (by omega); have hy16 : y106.length = (x4_1 : Int).toNat := (by rw [Ny106.out, List.length_take]; omega); rw [← Ny106.out] at hr16; rw [← hy16] at hcut16; have HR109 := Aside0.mk hr16; have HC109 := Aside0.mk (show y106.length ≤ c0 from by omega); clear hr16 hC16 hroom16 hi016 hsz16; have KY16 := Aside0.mk hy16; clear hy16; replace q16 := eq_true q16; have p110 : 0 ≤ (x4_1 : Int) := of_decide_eq_true pbb2_4; have q110 : x4_1 < (l0.length : Int) := of_decide_eq_true pbb2_4; obtain ⟨ad110, e110, hx110_0, hx110_1, hx110_2, hx110_3, hx110_4, hx110_5, hx110_6, hx110_7⟩ := at_T23 HR0.out x4_1 p110 q110; have hw110_7 := hx110_7; have hw110_6 := hx110_6; have hw110_5 := hx110_5; have hw110_4 := hx110_4; have hw110_3 := hx110_3; have hw110_2 := hx110_2; have hw110_1 := hx110_1; have hw110_0 := hx110_0; obtain rfl : ad101 = ad110 := (by injection e110); replace hx110_0 := (HB.out.cell (World.block_lt_of_cell? w _ hx110_0)).trans hx110_0; replace hx110_1 := (HB.out.cell (World.block_lt_of_cell? w _ hx110_1)).trans hx110_1; replace hx110_2 := (HB.out.cell (World.block_lt_of_cell? w _ hx110_2)).trans hx110_2; replace hx110_3 := (HB.out.cell (World.block_lt_of_cell? w _ hx110_3)).trans hx110_3; replace hx110_4 := (HB.out.cell (World.block_lt_of_cell? w _ hx110_4)).trans hx110_4; replace hx110_5 := (HB.out.cell (World.block_lt_of_cell? w _ hx110_5)).trans hx110_5; replace hx110_6 := (HB.out.cell (World.block_lt_of_cell? w _ hx110_6)).trans hx110_6; replace hx110_7 := (HB.out.cell (World.block_lt_of_cell? w _ hx110_7)).trans hx110_7; replace p110 := eq_true p110; replace q110 := eq_true q110; refine start_ (n := 9) (S := fun w' => w'.cell? (ad101.add ((x4_1).toNat * 8)) = some (.int .i64 ((rd_T23 l0 x4_1).f0)) ∧ w'.cell? ⟨(ad101.add ((x4_1).toNat * 8)).block, (ad101.add ((x4_1).toNat * 8)).off + 1, none⟩ = some (.int .i64 ((rd_T23 l0 x4_1).f1)) ∧ w'.cell? ⟨(ad101.add ((x4_1).toNat * 8)).block, (ad101.add ((x4_1).toNat * 8)).off + 2, none⟩ = some (.string ((rd_T23 l0 x4_1).f2)) ∧ w'.cell? ⟨(ad101.add ((x4_1).toNat * 8)).block, (ad101.add ((x4_1).toNat * 8)).off + 3, none⟩ = some (.int .i64 ((rd_T23 l0 x4_1).f3)) ∧ w'.cell? ⟨(ad101.add ((x4_1).toNat * 8)).block, (ad101.add ((x4_1).toNat * 8)).off + 4, none⟩ = some (.int .i64 ((rd_T23 l0 x4_1).f4)) ∧ w'.cell? ⟨(ad101.add ((x4_1).toNat * 8)).block, (ad101.add ((x4_1).toNat * 8)).off + 5, none⟩ = some (.int .i64 ((rd_T23 l0 x4_1).f5)) ∧ w'.cell? ⟨(ad101.add ((x4_1).toNat * 8)).block, (ad101.add ((x4_1).toNat * 8)).off + 6, none⟩ = some (.string ((rd_T23 l0 x4_1).f6)) ∧ w'.cell? ⟨(ad101.add ((x4_1).toNat * 8)).block, (ad101.add ((x4_1).toNat * 8)).off + 7, none⟩ = some (.int .i64 ((rd_T23 l0 x4_1).f7))) (ds := []) (bq 9 0) (by kernel_rfl) rfl rfl ⟨((HB.out.cell (World.block_lt_of_cell? w _ hw110_0)).trans hw110_0), ((HB.out.cell (World.block_lt_of_cell? w _ hw110_1)).trans hw110_1), ((HB.out.cell (World.block_lt_of_cell? w _ hw110_2)).trans hw110_2), ((HB.out.cell (World.block_lt_of_cell? w _ hw110_3)).trans hw110_3), ((HB.out.cell (World.block_lt_of_cell? w _ hw110_4)).trans hw110_4), ((HB.out.cell (World.block_lt_of_cell? w _ hw110_5)).trans hw110_5), ((HB.out.cell (World.block_lt_of_cell? w _ hw110_6)).trans hw110_6), ((HB.out.cell (World.block_lt_of_cell? w _ hw110_7)).trans hw110_7)⟩ (fun hHeld => ?_); refine with_tabW F15.tab12 F15.bits12 (fun HT_ HW_ => ?_); generalize w14.drew = w15 at HB HR109 hx110_0 hx110_1 hx110_2 hx110_3 hx110_4 hx110_5 hx110_6 hx110_7 hHeld ⊢; refine pv_ 0 40 (bq 9 1) HT_ ?_; refine pv_ 1 41 (bq 9 3) HT_ ?_; refine pv_ 2 42 (bq 9 7) HT_ ?_; refine pv_ 3 43 (bq 9 15) HT_ ?_; refine pv_ 4 44 (bq 9 31) HT_ ?_; refine pv_ 5 45 (bq 9 63) HT_ ?_; refine take_ (i := 6) (N := some 46) (v := ?_) (a' := ?_) (bq 9 127) rfl rfl (take_ofW HT_.out HW_.out (by kernel_rfl)) (fun _ _ _ h => h) (Or.inl ⟨by rfl, ?_⟩) hHeld ?_ ?_; rotate_left
           ·rintro w' ⟨s0, s1, s2, s3, s4, s5, s6, s7⟩; go_simp; (with_reducible rfl)
           rotate_left
           ·exact cbb2_0
           refine one_ (i := 7) (N := some 47) (bq 9 255) rfl rfl (one_of HT_.out (by kernel_rfl)) (by decide) (fun K hK => ?_); refine goes_ Tryd.func38 (by kernel_rfl) rfl #[.slice (some ad101) y106.length c0, .agg #[.int .i64 ((rd_T23 l0 x4_1).f0), .int .i64 ((rd_T23 l0 x4_1).f1), .string ((rd_T23 l0 x4_1).f2), .int .i64 ((rd_T23 l0 x4_1).f3), .int .i64 ((rd_T23 l0 x4_1).f4), .int .i64 ((rd_T23 l0 x4_1).f5), .string ((rd_T23 l0 x4_1).f6), .int .i64 ((rd_T23 l0 x4_1).f7)]] (by rfl) rfl rfl pbb2_2 ?_; (with_reducible refine (F38.calls k1 _ _ y106 ((rd_T23 l0 x4_1).f0) ((rd_T23 l0 x4_1).f1) ((rd_T23 l0 x4_1).f2) ((rd_T23 l0 x4_1).f3) ((rd_T23 l0 x4_1).f4) ((rd_T23 l0 x4_1).f5) ((rd_T23 l0 x4_1).f6) ((rd_T23 l0 x4_1).f7) t111 _ ?side1 ?side2 A12.out).mono ?_); (case side1 => repeat (first | exact (Kd.C_below HR109.out HB.out) | (with_reducible refine Kd.C_alloc ?_ _) | (with_reducible refine Kd.C_drewN ?_ _) | (with_reducible refine Kd.C_drew ?_))); (case side2 => exact HC109.out); rintro e w17 ⟨rfl, hb⟩; refine ⟨_, rfl, ?_⟩; replace HB := Aside0.mk (below_step pbb2_3 hb); (try clear hb); (try clear hb2); (try clear hk); (try clear hi); refine hK.out _ _ ⟨((HB.out.cell (World.block_lt_of_cell? w _ hw110_0)).trans hw110_0), ((HB.out.cell (World.block_lt_of_cell? w _ hw110_1)).trans hw110_1), ((HB.out.cell (World.block_lt_of_cell? w _ hw110_2)).trans hw110_2), ((HB.out.cell (World.block_lt_of_cell? w _ hw110_3)).trans hw110_3), ((HB.out.cell (World.block_lt_of_cell? w _ hw110_4)).trans hw110_4), ((HB.out.cell (World.block_lt_of_cell? w _ hw110_5)).trans hw110_5), ((HB.out.cell (World.block_lt_of_cell? w _ hw110_6)).trans hw110_6), ((HB.out.cell (World.block_lt_of_cell? w _ hw110_7)).trans hw110_7)⟩ (fun hHeld => ?_); clear hK K; refine norm_ (a' := ?_) ?_ ?_; rotate_left
           ·show Act.put _ (some 47) _ = _; simp only [Act.put, List.setIfInBounds_toArray, List.set_cons_zero, List.set_cons_succ, i64_w, i32_w]
            rfl
           refine pv_ 8 6 (bq 9 511) HT_ ?_; refine done_ (done_of HT_.out (by kernel_rfl)) ?_; (try go_wp2)
           go_roundg k1
           case measure => have := HK1.out; omega
           case rel => exact ⟨(wrap64 (x4_1 + 1)), pbb2_0, H', ⟨pbb6_1⟩, ⟨pbb2_3⟩⟩
          ·rw [if_neg c13] at H; have c13b0 := nF_ c13; have c13b1 := nT_ c13; simp only [Option.some.injEq, Prod.mk.injEq] at H; obtain ⟨rfl, rfl⟩ := H; have p101 : 0 ≤ (x4_1 : Int) := of_decide_eq_true pbb2_4; have q101 : x4_1 < (l0.length : Int) := of_decide_eq_true pbb2_4; obtain ⟨ad101, e101, hx101_0, hx101_1, hx101_2, hx101_3, hx101_4, hx101_5, hx101_6, hx101_7⟩ := up8 HB.out (at_T23 HR0.out x4_1 p101 q101)
           cases e101
           replace p101 := eq_true p101; replace q101 := eq_true q101; have p102 : 0 ≤ (x4_1 : Int) := of_decide_eq_true pbb2_4; have q102 : x4_1 < (l0.length : Int) := of_decide_eq_true pbb2_4; obtain ⟨ad102, e102, hx102_0, hx102_1, hx102_2, hx102_3, hx102_4, hx102_5, hx102_6, hx102_7⟩ := up8 HB.out (at_T23 HR0.out x4_1 p102 q102); obtain rfl : ad101 = ad102 := (by injection e102); replace p102 := eq_true p102; replace q102 := eq_true q102; (try go_wp2_with (first | ((with_reducible refine gate_callee (f := 13) rfl ?_); refine goesL_ (some 29) rfl rfl Tryd.func13 (by kernel_rfl) rfl #[.agg #[.int .i64 ((rd_T23 l0 x4_1).f0), .int .i64 ((rd_T23 l0 x4_1).f1), .string ((rd_T23 l0 x4_1).f2), .int .i64 ((rd_T23 l0 x4_1).f3), .int .i64 ((rd_T23 l0 x4_1).f4), .int .i64 ((rd_T23 l0 x4_1).f5), .string ((rd_T23 l0 x4_1).f6), .int .i64 ((rd_T23 l0 x4_1).f7)]] rfl pbb2_2 ?_; (with_reducible refine (F13.calls k1 ((rd_T23 l0 x4_1).f0) ((rd_T23 l0 x4_1).f1) ((rd_T23 l0 x4_1).f2) ((rd_T23 l0 x4_1).f3) ((rd_T23 l0 x4_1).f4) ((rd_T23 l0 x4_1).f5) ((rd_T23 l0 x4_1).f6) ((rd_T23 l0 x4_1).f7) t103 _ A6.out).mono ?_); rintro e w18 ⟨rfl, hb⟩; refine ⟨_, rfl, ?_⟩; replace HB := Aside0.mk (below_step pbb2_3 hb); (try clear hb); (try clear hb2); (try clear hk); (try clear hi); have p104 : 0 ≤ (x4_1 : Int) := of_decide_eq_true pbb2_4; have q104 : x4_1 < (l0.length : Int) := of_decide_eq_true pbb2_4; obtain ⟨ad104, e104, hx104_0, hx104_1, hx104_2, hx104_3, hx104_4, hx104_5, hx104_6, hx104_7⟩ := up8 HB.out (at_T23 HR0.out x4_1 p104 q104); obtain rfl : ad101 = ad104 := (by injection e104); replace p104 := eq_true p104; replace q104 := eq_true q104) | ((with_reducible refine gate_callee (f := 36) rfl ?_); refine goesL_ (some 39) rfl rfl Tryd.func36 (by kernel_rfl) rfl #[.int .i64 ((rd_T23 l0 x4_1).f3)] rfl pbb2_2 ?_; (with_reducible refine (F36.calls ((rd_T23 l0 x4_1).f3) true _ A8.out).mono ?_); rintro e w' ⟨rfl, ⟨nd, rfl⟩⟩; refine ⟨_, rfl, ?_⟩))); (try (rw [drewN_self w18]; generalize hq_ : World.drewN w18 _ = w18; have n0_ : Aside0 (Below w.heap.size w w18) := ⟨pbb4_0⟩; clear HB hq_; have HB := n0_; clear n0_)); replace HB := Aside0.mk (below_drew1 HB.out); have q20 : (x4_1 : Int) ≤ ((l0.length : Int) : Int) := of_decide_eq_true pbb2_4; obtain ⟨i020, hi020, _, hsz20, _⟩ := info_parts info23; have hroom20 : l0.length ≤ c0 := HC0.out; have hC20 : Kd.C k23 _ (some ad101) l0.length l0 := HR0.out; have hcut20 := cut_to (P := Tryd.prog) 25 23 .i64 Tryd.underlying25 hi020 (some ad101) l0.length c0 x4_1 (of_decide_eq_true pbb2_4) q20 hroom20; have hr20 := Kd.C_take (m := (x4_1 : Int).toNat) hC20 (by omega); have hy20 : y106.length = (x4_1 : Int).toNat := (by rw [Ny106.out, List.length_take]; omega); rw [← Ny106.out] at hr20; rw [← hy20] at hcut20; have HR109 := Aside0.mk hr20; have HC109 := Aside0.mk (show y106.length ≤ c0 from by omega); clear hr20 hC20 hroom20 hi020 hsz20; have KY20 := Aside0.mk hy20; clear hy20; replace q20 := eq_true q20; have p110 : 0 ≤ (x4_1 : Int) := of_decide_eq_true pbb2_4; have q110 : x4_1 < (l0.length : Int) := of_decide_eq_true pbb2_4; obtain ⟨ad110, e110, hx110_0, hx110_1, hx110_2, hx110_3, hx110_4, hx110_5, hx110_6, hx110_7⟩ := at_T23 HR0.out x4_1 p110 q110; have hw110_7 := hx110_7; have hw110_6 := hx110_6; have hw110_5 := hx110_5; have hw110_4 := hx110_4; have hw110_3 := hx110_3; have hw110_2 := hx110_2; have hw110_1 := hx110_1; have hw110_0 := hx110_0; obtain rfl : ad101 = ad110 := (by injection e110); replace hx110_0 := (HB.out.cell (World.block_lt_of_cell? w _ hx110_0)).trans hx110_0; replace hx110_1 := (HB.out.cell (World.block_lt_of_cell? w _ hx110_1)).trans hx110_1; replace hx110_2 := (HB.out.cell (World.block_lt_of_cell? w _ hx110_2)).trans hx110_2; replace hx110_3 := (HB.out.cell (World.block_lt_of_cell? w _ hx110_3)).trans hx110_3; replace hx110_4 := (HB.out.cell (World.block_lt_of_cell? w _ hx110_4)).trans hx110_4; replace hx110_5 := (HB.out.cell (World.block_lt_of_cell? w _ hx110_5)).trans hx110_5; replace hx110_6 := (HB.out.cell (World.block_lt_of_cell? w _ hx110_6)).trans hx110_6; replace hx110_7 := (HB.out.cell (World.block_lt_of_cell? w _ hx110_7)).trans hx110_7; replace p110 := eq_true p110; replace q110 := eq_true q110; refine start_ (n := 9) (S := fun w' => w'.cell? (ad101.add ((x4_1).toNat * 8)) = some (.int .i64 ((rd_T23 l0 x4_1).f0)) ∧ w'.cell? ⟨(ad101.add ((x4_1).toNat * 8)).block, (ad101.add ((x4_1).toNat * 8)).off + 1, none⟩ = some (.int .i64 ((rd_T23 l0 x4_1).f1)) ∧ w'.cell? ⟨(ad101.add ((x4_1).toNat * 8)).block, (ad101.add ((x4_1).toNat * 8)).off + 2, none⟩ = some (.string ((rd_T23 l0 x4_1).f2)) ∧ w'.cell? ⟨(ad101.add ((x4_1).toNat * 8)).block, (ad101.add ((x4_1).toNat * 8)).off + 3, none⟩ = some (.int .i64 ((rd_T23 l0 x4_1).f3)) ∧ w'.cell? ⟨(ad101.add ((x4_1).toNat * 8)).block, (ad101.add ((x4_1).toNat * 8)).off + 4, none⟩ = some (.int .i64 ((rd_T23 l0 x4_1).f4)) ∧ w'.cell? ⟨(ad101.add ((x4_1).toNat * 8)).block, (ad101.add ((x4_1).toNat * 8)).off + 5, none⟩ = some (.int .i64 ((rd_T23 l0 x4_1).f5)) ∧ w'.cell? ⟨(ad101.add ((x4_1).toNat * 8)).block, (ad101.add ((x4_1).toNat * 8)).off + 6, none⟩ = some (.string ((rd_T23 l0 x4_1).f6)) ∧ w'.cell? ⟨(ad101.add ((x4_1).toNat * 8)).block, (ad101.add ((x4_1).toNat * 8)).off + 7, none⟩ = some (.int .i64 ((rd_T23 l0 x4_1).f7))) (ds := []) (bq 9 0) (by kernel_rfl) rfl rfl ⟨((HB.out.cell (World.block_lt_of_cell? w _ hw110_0)).trans hw110_0), ((HB.out.cell (World.block_lt_of_cell? w _ hw110_1)).trans hw110_1), ((HB.out.cell (World.block_lt_of_cell? w _ hw110_2)).trans hw110_2), ((HB.out.cell (World.block_lt_of_cell? w _ hw110_3)).trans hw110_3), ((HB.out.cell (World.block_lt_of_cell? w _ hw110_4)).trans hw110_4), ((HB.out.cell (World.block_lt_of_cell? w _ hw110_5)).trans hw110_5), ((HB.out.cell (World.block_lt_of_cell? w _ hw110_6)).trans hw110_6), ((HB.out.cell (World.block_lt_of_cell? w _ hw110_7)).trans hw110_7)⟩ (fun hHeld => ?_); refine with_tabW F15.tab12 F15.bits12 (fun HT_ HW_ => ?_); generalize w18.drew = w19 at HB HR109 hx110_0 hx110_1 hx110_2 hx110_3 hx110_4 hx110_5 hx110_6 hx110_7 hHeld ⊢; refine pv_ 0 40 (bq 9 1) HT_ ?_; refine pv_ 1 41 (bq 9 3) HT_ ?_; refine pv_ 2 42 (bq 9 7) HT_ ?_; refine pv_ 3 43 (bq 9 15) HT_ ?_; refine pv_ 4 44 (bq 9 31) HT_ ?_; refine pv_ 5 45 (bq 9 63) HT_ ?_; refine take_ (i := 6) (N := some 46) (v := ?_) (a' := ?_) (bq 9 127) rfl rfl (take_ofW HT_.out HW_.out (by kernel_rfl)) (fun _ _ _ h => h) (Or.inl ⟨by rfl, ?_⟩) hHeld ?_ ?_; rotate_left
           ·rintro w' ⟨s0, s1, s2, s3, s4, s5, s6, s7⟩; go_simp; (with_reducible rfl)
           rotate_left
           ·exact cbb2_0
           refine one_ (i := 7) (N := some 47) (bq 9 255) rfl rfl (one_of HT_.out (by kernel_rfl)) (by decide) (fun K hK => ?_); refine goes_ Tryd.func38 (by kernel_rfl) rfl #[.slice (some ad101) y106.length c0, .agg #[.int .i64 ((rd_T23 l0 x4_1).f0), .int .i64 ((rd_T23 l0 x4_1).f1), .string ((rd_T23 l0 x4_1).f2), .int .i64 ((rd_T23 l0 x4_1).f3), .int .i64 ((rd_T23 l0 x4_1).f4), .int .i64 ((rd_T23 l0 x4_1).f5), .string ((rd_T23 l0 x4_1).f6), .int .i64 ((rd_T23 l0 x4_1).f7)]] (by rfl) rfl rfl pbb2_2 ?_; (with_reducible refine (F38.calls k1 _ _ y106 ((rd_T23 l0 x4_1).f0) ((rd_T23 l0 x4_1).f1) ((rd_T23 l0 x4_1).f2) ((rd_T23 l0 x4_1).f3) ((rd_T23 l0 x4_1).f4) ((rd_T23 l0 x4_1).f5) ((rd_T23 l0 x4_1).f6) ((rd_T23 l0 x4_1).f7) t111 _ ?side1 ?side2 A12.out).mono ?_); (case side1 => repeat (first | exact (Kd.C_below HR109.out HB.out) | (with_reducible refine Kd.C_alloc ?_ _) | (with_reducible refine Kd.C_drewN ?_ _) | (with_reducible refine Kd.C_drew ?_))); (case side2 => exact HC109.out); rintro e w21 ⟨rfl, hb⟩; refine ⟨_, rfl, ?_⟩; replace HB := Aside0.mk (below_step pbb2_3 hb); (try clear hb); (try clear hb2); (try clear hk); (try clear hi); refine hK.out _ _ ⟨((HB.out.cell (World.block_lt_of_cell? w _ hw110_0)).trans hw110_0), ((HB.out.cell (World.block_lt_of_cell? w _ hw110_1)).trans hw110_1), ((HB.out.cell (World.block_lt_of_cell? w _ hw110_2)).trans hw110_2), ((HB.out.cell (World.block_lt_of_cell? w _ hw110_3)).trans hw110_3), ((HB.out.cell (World.block_lt_of_cell? w _ hw110_4)).trans hw110_4), ((HB.out.cell (World.block_lt_of_cell? w _ hw110_5)).trans hw110_5), ((HB.out.cell (World.block_lt_of_cell? w _ hw110_6)).trans hw110_6), ((HB.out.cell (World.block_lt_of_cell? w _ hw110_7)).trans hw110_7)⟩ (fun hHeld => ?_); clear hK K; refine norm_ (a' := ?_) ?_ ?_; rotate_left
           ·show Act.put _ (some 47) _ = _; simp only [Act.put, List.setIfInBounds_toArray, List.set_cons_zero, List.set_cons_succ, i64_w, i32_w]
            rfl
           refine pv_ 8 6 (bq 9 511) HT_ ?_; refine done_ (done_of HT_.out (by kernel_rfl)) ?_; (try go_wp2)
           go_ret2
           exact ⟨pbb2_5, pbb2_3⟩
         ·rw [if_neg c11] at H; exact absurd H (by simp)
        ·replace c9 := Bool.eq_false_iff.mpr c9; subst c9; rw [if_neg (show ¬ (false = true) by decide)] at H; have H' := Aside0.mk H; clear H; have p101 : 0 ≤ (x4_1 : Int) := of_decide_eq_true pbb2_4; have q101 : x4_1 < (l0.length : Int) := of_decide_eq_true pbb2_4; obtain ⟨ad101, e101, hx101_0, hx101_1, hx101_2, hx101_3, hx101_4, hx101_5, hx101_6, hx101_7⟩ := up8 HB.out (at_T23 HR0.out x4_1 p101 q101)
         cases e101
         replace p101 := eq_true p101; replace q101 := eq_true q101; have p102 : 0 ≤ (x4_1 : Int) := of_decide_eq_true pbb2_4; have q102 : x4_1 < (l0.length : Int) := of_decide_eq_true pbb2_4; obtain ⟨ad102, e102, hx102_0, hx102_1, hx102_2, hx102_3, hx102_4, hx102_5, hx102_6, hx102_7⟩ := up8 HB.out (at_T23 HR0.out x4_1 p102 q102); obtain rfl : ad101 = ad102 := (by injection e102); replace p102 := eq_true p102; replace q102 := eq_true q102
         go_wp2_with (first | ((with_reducible refine gate_callee (f := 13) rfl ?_); refine goesL_ (some 29) rfl rfl Tryd.func13 (by kernel_rfl) rfl #[.agg #[.int .i64 ((rd_T23 l0 x4_1).f0), .int .i64 ((rd_T23 l0 x4_1).f1), .string ((rd_T23 l0 x4_1).f2), .int .i64 ((rd_T23 l0 x4_1).f3), .int .i64 ((rd_T23 l0 x4_1).f4), .int .i64 ((rd_T23 l0 x4_1).f5), .string ((rd_T23 l0 x4_1).f6), .int .i64 ((rd_T23 l0 x4_1).f7)]] rfl pbb2_2 ?_; (with_reducible refine (F13.calls k1 ((rd_T23 l0 x4_1).f0) ((rd_T23 l0 x4_1).f1) ((rd_T23 l0 x4_1).f2) ((rd_T23 l0 x4_1).f3) ((rd_T23 l0 x4_1).f4) ((rd_T23 l0 x4_1).f5) ((rd_T23 l0 x4_1).f6) ((rd_T23 l0 x4_1).f7) t103 _ A6.out).mono ?_); rintro e w22 ⟨rfl, hb⟩; refine ⟨_, rfl, ?_⟩; replace HB := Aside0.mk (below_step pbb2_3 hb); (try clear hb); (try clear hb2); (try clear hk); (try clear hi); have p104 : 0 ≤ (x4_1 : Int) := of_decide_eq_true pbb2_4; have q104 : x4_1 < (l0.length : Int) := of_decide_eq_true pbb2_4; obtain ⟨ad104, e104, hx104_0, hx104_1, hx104_2, hx104_3, hx104_4, hx104_5, hx104_6, hx104_7⟩ := up8 HB.out (at_T23 HR0.out x4_1 p104 q104); obtain rfl : ad101 = ad104 := (by injection e104); replace p104 := eq_true p104; replace q104 := eq_true q104) | ((with_reducible refine gate_callee (f := 36) rfl ?_); refine goesL_ (some 39) rfl rfl Tryd.func36 (by kernel_rfl) rfl #[.int .i64 ((rd_T23 l0 x4_1).f3)] rfl pbb2_2 ?_; (with_reducible refine (F36.calls ((rd_T23 l0 x4_1).f3) false _ A8.out).mono ?_); rintro e w' ⟨rfl, ⟨nd, rfl⟩⟩; refine ⟨_, rfl, ?_⟩))
         go_roundg k1
         case measure => have := HK1.out; omega
         case rel => exact ⟨(wrap64 (x4_1 + 1)), pbb2_0, H', ⟨pbb6_1⟩, ⟨pbb2_3⟩⟩
       ·rw [if_neg c7] at H; have c7b0 := nF_ c7; have c7b1 := nT_ c7; simp only [Option.some.injEq, Prod.mk.injEq] at H; obtain ⟨rfl, rfl⟩ := H; have p101 : 0 ≤ (x4_1 : Int) := of_decide_eq_true pbb2_4; have q101 : x4_1 < (l0.length : Int) := of_decide_eq_true pbb2_4; obtain ⟨ad101, e101, hx101_0, hx101_1, hx101_2, hx101_3, hx101_4, hx101_5, hx101_6, hx101_7⟩ := up8 HB.out (at_T23 HR0.out x4_1 p101 q101)
        cases e101
        replace p101 := eq_true p101; replace q101 := eq_true q101; have p102 : 0 ≤ (x4_1 : Int) := of_decide_eq_true pbb2_4; have q102 : x4_1 < (l0.length : Int) := of_decide_eq_true pbb2_4; obtain ⟨ad102, e102, hx102_0, hx102_1, hx102_2, hx102_3, hx102_4, hx102_5, hx102_6, hx102_7⟩ := up8 HB.out (at_T23 HR0.out x4_1 p102 q102); obtain rfl : ad101 = ad102 := (by injection e102); replace p102 := eq_true p102; replace q102 := eq_true q102
        go_wp2_with (first | ((with_reducible refine gate_callee (f := 13) rfl ?_); refine goesL_ (some 29) rfl rfl Tryd.func13 (by kernel_rfl) rfl #[.agg #[.int .i64 ((rd_T23 l0 x4_1).f0), .int .i64 ((rd_T23 l0 x4_1).f1), .string ((rd_T23 l0 x4_1).f2), .int .i64 ((rd_T23 l0 x4_1).f3), .int .i64 ((rd_T23 l0 x4_1).f4), .int .i64 ((rd_T23 l0 x4_1).f5), .string ((rd_T23 l0 x4_1).f6), .int .i64 ((rd_T23 l0 x4_1).f7)]] rfl pbb2_2 ?_; (with_reducible refine (F13.calls k1 ((rd_T23 l0 x4_1).f0) ((rd_T23 l0 x4_1).f1) ((rd_T23 l0 x4_1).f2) ((rd_T23 l0 x4_1).f3) ((rd_T23 l0 x4_1).f4) ((rd_T23 l0 x4_1).f5) ((rd_T23 l0 x4_1).f6) ((rd_T23 l0 x4_1).f7) t103 _ A6.out).mono ?_); rintro e w23 ⟨rfl, hb⟩; refine ⟨_, rfl, ?_⟩; replace HB := Aside0.mk (below_step pbb2_3 hb); (try clear hb); (try clear hb2); (try clear hk); (try clear hi)))
        go_ret2
        exact ⟨pbb2_5, pbb2_3⟩
      ·rw [if_neg c5] at H; have c5b0 := nF_ c5; have c5b1 := nT_ c5; simp only [Option.some.injEq, Prod.mk.injEq] at H; obtain ⟨rfl, rfl⟩ := H; have p101 : 0 ≤ (x4_1 : Int) := of_decide_eq_true pbb2_4; have q101 : x4_1 < (l0.length : Int) := of_decide_eq_true pbb2_4; obtain ⟨ad101, e101, hx101_0, hx101_1, hx101_2, hx101_3, hx101_4, hx101_5, hx101_6, hx101_7⟩ := up8 HB.out (at_T23 HR0.out x4_1 p101 q101)
       cases e101
       replace p101 := eq_true p101; replace q101 := eq_true q101
       go_wp2
       go_ret2
       exact ⟨pbb2_5, pbb2_3⟩
     ·rw [if_neg c4] at H; exact absurd H (by simp)
    ·rw [if_neg c3] at H; have c3b0 := decide_eq_false c3; clear c3; simp only [Option.some.injEq, Prod.mk.injEq] at H; obtain ⟨rfl, rfl⟩ := H
     go_wp2
     go_ret2
     exact ⟨pbb2_5, pbb2_3⟩
end Go.Proofs.YtegpappenmhndaaDoor.M
end
section
namespace Go.Proofs.YtegpappenmhndaaDoor.M
open Go.RowKit Go.Proofs.YtegpappenmhndaaDoorW.PrintWords Go.Proofs.YtegpappenmhndaaDoorW.PrintLast
set_option linter.unusedVariables false
set_option linter.unusedSimpArgs false
abbrev rdv (l : List MV) (i : Int) : MV := rd_T23 l i
theorem rdv_at (P R : List MV) (m : MV) (i : Int) (h : i = (P.length : Int)) : rdv (P ++ m :: R) i = m := by
 subst h; simp [rdv, rd_T23]
theorem rdv_mem {l : List MV} {i : Int} (h0 : 0 ≤ i) (h1 : i < l.length) : rdv l i ∈ l := by
 obtain ⟨n, rfl⟩ := Int.eq_ofNat_of_zero_le h0; have hn : n < l.length := by omega
 show l.getD (n : Int).toNat _ ∈ l; rw [Int.toNat_natCast, List.getD_eq_getElem?_getD, List.getElem?_eq_getElem hn]; exact List.getElem_mem hn
def onem (m : MV) : Int := onev m.f1 m.f2 m.f3 m.f4 m.f5 m.f6 m.f7
theorem onev_zero {value : Int} {item : ByteArray} {kind qty cost : Int} {lot : ByteArray} {ref : Int} (h : onev value item kind qty cost lot ref = 0) : dayv value = true ∧ codev item = true ∧ inv kind 1 6 = true ∧ qtyv kind qty = true ∧ cstv kind cost = true ∧ lotv kind lot = true ∧ rfv kind ref = true := by
 unfold onev at h
 by_cases c1 : dayv value = false
 ·rw [if_pos c1] at h; omega
 rw [if_neg c1] at h
 by_cases c2 : codev item = false
 ·rw [if_pos c2] at h; omega
 rw [if_neg c2] at h
 by_cases c3 : inv kind 1 6 = false
 ·rw [if_pos c3] at h; omega
 rw [if_neg c3] at h
 by_cases c4 : (qtyv kind qty && cstv kind cost) = false
 ·rw [if_pos c4] at h; omega
 rw [if_neg c4] at h
 by_cases c5 : lotv kind lot = false
 ·rw [if_pos c5] at h; omega
 rw [if_neg c5] at h
 by_cases c6 : rfv kind ref = false
 ·rw [if_pos c6] at h; omega
 have c4 : (qtyv kind qty && cstv kind cost) = true := by simpa using c4
 rw [Bool.and_eq_true] at c4; exact ⟨by simpa using c1, by simpa using c2, by simpa using c3, c4.1, c4.2, by simpa using c5, by simpa using c6⟩
theorem onev_ok {value : Int} {item : ByteArray} {kind qty cost : Int} {lot : ByteArray} {ref : Int} (h1 : dayv value = true) (h2 : codev item = true) (h3 : inv kind 1 6 = true) (h4 : qtyv kind qty = true) (h5 : cstv kind cost = true) (h6 : lotv kind lot = true) (h7 : rfv kind ref = true) : onev value item kind qty cost lot ref = 0 := by
 unfold onev
 simp [h1, h2, h3, h4, h5, h6, h7]
theorem qty_range {m : MV} (h : onem m = 0) : 0 ≤ m.f4 ∧ m.f4 ≤ 1000000000 ∧ (m.f3 = 5 → m.f4 = 0) ∧ (m.f3 = 1 → 1 ≤ m.f4) ∧ (folv m.f3 = true → 1 ≤ m.f7) := by
 obtain ⟨_, _, h3, h4, _, _, h7⟩ := onev_zero h
 unfold qtyv at h4
 have h8 : folv m.f3 = true → 1 ≤ m.f7 := by
  intro hf
  unfold rfv at h7
  rw [if_pos hf] at h7; exact of_decide_eq_true h7
 by_cases c : m.f3 = 5 ∨ m.f3 = 6
 ·rw [if_pos c] at h4; have := eq_of_beq h4; exact ⟨by omega, by omega, fun _ => this, by omega, h8⟩
 ·rw [if_neg c] at h4; have := of_decide_eq_true h4; exact ⟨by omega, by omega, by omega, by omega, h8⟩
def qsum : List MV → Int → Int → Int
 | [], _, _ => 0
 | y :: r, kind, ref => (if y.f3 = kind ∧ y.f7 = ref then y.f4 else 0) + qsum r kind ref
theorem qsum_app (P : List MV) (m : MV) (kind ref : Int) : qsum (P ++ [m]) kind ref = qsum P kind ref + if m.f3 = kind ∧ m.f7 = ref then m.f4 else 0 := by
 induction P with
 | nil => simp [qsum]
 | cons y r ih => simp only [List.cons_append, qsum, ih]; omega
def Good (P : List MV) : Prop := ∀ y ∈ P, onem y = 0
theorem Good.app {P : List MV} {m : MV} (h : Good P) (hm : onem m = 0) : Good (P ++ [m]) := by
 intro y hy
 rcases List.mem_append.1 hy with h1 | h1
 ·exact h y h1
 ·rw [List.mem_singleton.1 h1]; exact hm
theorem qsum_range : ∀ (P : List MV) (kind ref : Int), Good P → 0 ≤ qsum P kind ref ∧ qsum P kind ref ≤ 1000000000 * (P.length : Int) ∧ (kind = 5 → qsum P kind ref = 0)
 | [], kind, ref, _ => by simp [qsum]
 | y :: r, kind, ref, h => by
  have ih := qsum_range r kind ref (fun z hz => h z (List.mem_cons_of_mem _ hz)); have hy := qty_range (h y (List.mem_cons_self)); simp only [qsum, List.length_cons]
  by_cases c : y.f3 = kind ∧ y.f7 = ref
  ·rw [if_pos c]; refine ⟨by omega, by omega, fun k5 => ?_⟩; have := ih.2.2 k5; have := hy.2.2.1 (by omega)
   omega
  ·rw [if_neg c]; refine ⟨by omega, by omega, fun k5 => ?_⟩; have := ih.2.2 k5
   omega
def trg (kind : Int) : Int := if kind = 3 then 2 else 1
def refv (P : List MV) (m : MV) : Int :=
 if m.f7 > (P.length : Int) then 28
 else if (rdv P (m.f7 - 1)).f2.toList = m.f2.toList ∧ (rdv P (m.f7 - 1)).f3 = trg m.f3 then
  (if m.f1 < (rdv P (m.f7 - 1)).f1 then 17 else if ¬ m.f3 = 5 ∧ m.f4 + qsum P m.f3 m.f7 > (rdv P (m.f7 - 1)).f4 then 21 else 0)
 else 28
def chkv (P : List MV) : List MV → Int × Int
 | [] => (-1, 0)
 | m :: r => if m.f0 = (P.length : Int) + 1 then (if onem m = 0 then (if folv m.f3 = true then (if refv P m = 0 then chkv (P ++ [m]) r else ((P.length : Int), refv P m)) else chkv (P ++ [m]) r) else ((P.length : Int), onem m)) else ((P.length : Int), 17)
def Checkv (l : List MV) : Int × Int := if (l.length : Int) > 2000 then (0, 9) else chkv [] l
def MapOk (L : Rmap) (P : List MV) : Prop := ∀ kind ref, folv kind = true → (aget L (kind, ref)).getD 0 = qsum P kind ref
theorem aget_aput_other {κ ν : Type} [DecidableEq κ] (k k' : κ) (v : ν) (h : k ≠ k') : ∀ L : List (κ × ν), aget (aput L k v) k' = aget L k'
 | [] => by simp [aput, aget, h]
 | p :: r => by
  unfold aput
  by_cases c : p.1 = k
  ·simp only [c, if_true, aget, if_neg h]
  ·simp only [if_neg c, aget, aget_aput_other k k' v h r]
theorem F55.eq (n : Int) : F55.f n = some (trg n) := by
 unfold F55.f trg
 by_cases h : n = 3 <;> simp [h]
theorem F37.eq {P : List MV} {m : MV} {L : Rmap} (hP : Good P) (hl : P.length ≤ 2000) (hm : onem m = 0) (hf : folv m.f3 = true) (hL : MapOk L P) :
  ∃ L', F37.f P m L = some (refv P m, L') ∧ (refv P m = 0 → MapOk L' (P ++ [m])) := by
 have hq := qty_range hm; have h7 := hq.2.2.2.2 hf; have hs := qsum_range P m.f3 m.f7 hP
 unfold F37.f refv
 by_cases c1 : m.f7 > (P.length : Int)
 ·simp only [if_pos c1]; exact ⟨L, rfl, by omega⟩
 simp only [if_neg c1, if_neg (show ¬ m.f7 < 1 by omega), F55.eq, Option.bind_some]
 by_cases c2 : (rdv P (m.f7 - 1)).f2.toList = m.f2.toList
 rotate_left
 ·simp only [if_neg c2, if_neg (show ¬ ((rdv P (m.f7 - 1)).f2.toList = m.f2.toList ∧ (rdv P (m.f7 - 1)).f3 = trg m.f3) from fun h => c2 h.1)]; exact ⟨L, rfl, by omega⟩
 by_cases c3 : (rdv P (m.f7 - 1)).f3 = trg m.f3
 rotate_left
 ·simp only [if_pos c2, if_neg c3, if_neg (show ¬ ((rdv P (m.f7 - 1)).f2.toList = m.f2.toList ∧ (rdv P (m.f7 - 1)).f3 = trg m.f3) from fun h => c3 h.2)]; exact ⟨L, rfl, by omega⟩
 simp only [if_pos c2, if_pos c3, if_pos (show (rdv P (m.f7 - 1)).f2.toList = m.f2.toList ∧ (rdv P (m.f7 - 1)).f3 = trg m.f3 from ⟨c2, c3⟩)]
 by_cases c4 : m.f1 < (rdv P (m.f7 - 1)).f1
 ·simp only [if_pos c4]; exact ⟨L, rfl, by omega⟩
 simp only [if_neg c4]; have hx : onem (rdv P (m.f7 - 1)) = 0 := hP _ (rdv_mem (by omega) (by omega)); have hxq := qty_range hx; have e : (aget L (m.f3, m.f7)).getD 0 = qsum P m.f3 m.f7 := hL _ _ hf; rw [e, w64 (n := qsum P m.f3 m.f7 + m.f4) (by omega) (by omega)]
 have ok : MapOk (aput L (m.f3, m.f7) (qsum P m.f3 m.f7 + m.f4)) (P ++ [m]) := by
  intro kind ref hk; rw [qsum_app]
  by_cases d : m.f3 = kind ∧ m.f7 = ref
  ·rw [if_pos d, ← d.1, ← d.2, aget_aput_same]; rfl
  ·rw [if_neg d, aget_aput_other _ _ _ (by intro h; exact d (Prod.mk.inj h)), hL _ _ hk, Int.add_zero]
 by_cases c5 : m.f3 = 5
 ·have h0 : qsum P m.f3 m.f7 + m.f4 = 0 := by have := hs.2.2 c5; have := hq.2.2.1 c5; omega
  have hx1 : 1 ≤ (rdv P (m.f7 - 1)).f4 := hxq.2.2.2.1 (by rw [c3, c5]; rfl); have h9 : ¬ qsum P m.f3 m.f7 + m.f4 > (rdv P (m.f7 - 1)).f4 := by omega
  simp only [if_neg (show ¬ (¬ m.f3 = 5 ∧ m.f4 + qsum P m.f3 m.f7 > (rdv P (m.f7 - 1)).f4) from fun h => h.1 c5), if_neg h9]; exact ⟨_, rfl, fun _ => ok⟩
 ·by_cases c6 : qsum P m.f3 m.f7 + m.f4 > (rdv P (m.f7 - 1)).f4
  ·simp only [if_pos c6, if_pos (show ¬ m.f3 = 5 ∧ m.f4 + qsum P m.f3 m.f7 > (rdv P (m.f7 - 1)).f4 from ⟨c5, by omega⟩)]; exact ⟨_, rfl, by omega⟩
  ·simp only [if_neg c6, if_neg (show ¬ (¬ m.f3 = 5 ∧ m.f4 + qsum P m.f3 m.f7 > (rdv P (m.f7 - 1)).f4) from fun h => c6 (by omega))]; exact ⟨_, rfl, fun _ => ok⟩
theorem F14.go (l : List MV) (hl : l.length ≤ 2000) : ∀ (R P : List MV) (L : Rmap), P ++ R = l → Good P → MapOk L P → Ev (fun k => chkL k months l R P.length L) (chkv P R)
 | [], P, L, _, _, _ => by simp only [chkL, chkv]; exact Ev.const _
 | m :: R, P, L, e, hP, hL => by
  have hPl : P.length ≤ 2000 := by rw [← e, List.length_append] at hl; omega
  have ht : l.take P.length = P := by rw [← e]; simp
  have hn : (P ++ [m]).length = P.length + 1 := by simp
  simp only [chkL, chkv]
  by_cases c1 : m.f0 = (P.length : Int) + 1
  rotate_left
  ·simp only [if_neg c1]; exact Ev.const _
  simp only [if_pos c1]; refine Ev.bind (F12.eq m.f0 m.f1 m.f2 m.f3 m.f4 m.f5 m.f6 m.f7) ?_; show Ev (fun k => if onem m = 0 then _ else _) _
  by_cases c2 : onem m = 0
  rotate_left
  ·simp only [if_neg c2]; exact Ev.const _
  simp only [if_pos c2, F31.eq, Option.bind_some]
  by_cases c3 : folv m.f3 = true
  ·simp only [if_pos c3, ht]; obtain ⟨L', h1, h2⟩ := F37.eq hP hPl c2 c3 hL; simp only [h1, Option.bind_some]
   by_cases c4 : refv P m = 0
   ·simp only [if_pos c4]; rw [← hn]; exact F14.go l hl R (P ++ [m]) L' (by simpa using e) (hP.app c2) (h2 c4)
   ·simp only [if_neg c4]; exact Ev.const _
  ·simp only [if_neg c3]; rw [← hn]; refine F14.go l hl R (P ++ [m]) L (by simpa using e) (hP.app c2) ?_; intro kind ref hk; rw [qsum_app, if_neg (fun h => c3 (by rw [h.1]; exact hk)), hL _ _ hk, Int.add_zero]
theorem F14.eq (l : List MV) : Ev (fun k => F14.f k l months) (Checkv l) := by
 unfold F14.f Checkv
 by_cases c : l.length > 2000
 ·simp only [if_pos c, if_pos (show (l.length : Int) > 2000 by omega)]; exact Ev.const _
 ·simp only [if_neg c, if_neg (show ¬ (l.length : Int) > 2000 by omega)]; exact F14.go l (by omega) l [] [] rfl (by intro y hy; simp at hy) (by intro a b _; rfl)
theorem F38.go (m x : MV) : ∀ (B A : List MV) (q i : Int), i = (A.length : Int) → Good (A ++ B) → (A ++ B).length ≤ 2000 → 0 ≤ q → q ≤ 1000000000 * (A.length : Int) + 1000000000 →
  Ev (fun k => F38.l0 k (A ++ B) q i m.f0 m.f1 m.f2 m.f3 m.f4 m.f5 m.f6 m.f7 x.f0 x.f1 x.f2 x.f3 x.f4 x.f5 x.f6 x.f7) (if ¬ m.f3 = 5 ∧ q + qsum B m.f3 m.f7 > x.f4 then 21 else 0)
 | [], A, q, i, hi, _, hl, h0, h1 => by
  refine Ev.succ ?_; simp only [List.append_nil] at hl ⊢; simp only [F38.l0, if_neg (show ¬ i < (A.length : Int) by omega), qsum, Int.add_zero]
  by_cases c : m.f3 = 5
  ·simp only [if_pos c, if_neg (show ¬ (¬ m.f3 = 5 ∧ q > x.f4) from fun h => h.1 c)]; exact Ev.const _
  ·simp only [if_neg c]
   by_cases d : q > x.f4
   ·simp only [if_pos d, if_pos (show ¬ m.f3 = 5 ∧ q > x.f4 from ⟨c, d⟩)]; exact Ev.const _
   ·simp only [if_neg d, if_neg (show ¬ (¬ m.f3 = 5 ∧ q > x.f4) from fun h => d h.2)]; exact Ev.const _
 | y :: B, A, q, i, hi, hg, hl, h0, h1 => by
  have hy := qty_range (hg y (by simp)); have hl2 : A.length + (B.length + 1) ≤ 2000 := by simpa using hl
  have ih : ∀ q', 0 ≤ q' → q' ≤ 1000000000 * (A.length : Int) + 2000000000 → _ := fun q' a b => F38.go m x B (A ++ [y]) q' (i + 1) (by simp; omega) (by simpa using hg) (by simpa using hl) a (by simp; omega); refine Ev.succ ?_; simp only [F38.l0, if_pos (show i < ((A ++ y :: B).length : Int) by simp; omega), if_pos (show (0 : Int) ≤ i by omega)]; rw [show rd_T23 (A ++ y :: B) i = y from rdv_at A B y i hi, w64 (n := i + 1) (by omega) (by omega)]; rw [show A ++ y :: B = (A ++ [y]) ++ B by simp]; simp only [qsum]
  by_cases c : y.f3 = m.f3
  ·simp only [if_pos c]
   by_cases d : y.f7 = m.f7
   ·simp only [if_pos d, if_pos (show y.f3 = m.f3 ∧ y.f7 = m.f7 from ⟨c, d⟩)]; rw [w64 (n := q + y.f4) (by omega) (by omega), ← Int.add_assoc]; exact ih (q + y.f4) (by omega) (by omega)
   ·simp only [if_neg d, if_neg (show ¬ (y.f3 = m.f3 ∧ y.f7 = m.f7) from fun h => d h.2), Int.zero_add]; exact ih q (by omega) (by omega)
  ·simp only [if_neg c, if_neg (show ¬ (y.f3 = m.f3 ∧ y.f7 = m.f7) from fun h => c h.1), Int.zero_add]; exact ih q (by omega) (by omega)
theorem F38.eq {P : List MV} {m : MV} (hP : Good P) (hl : P.length ≤ 2000) (hm : onem m = 0) (hf : folv m.f3 = true) :
  Ev (fun k => F38.f k P m.f0 m.f1 m.f2 m.f3 m.f4 m.f5 m.f6 m.f7) (refv P m) := by
 have hq := qty_range hm; have h7 := hq.2.2.2.2 hf
 unfold F38.f refv
 by_cases c1 : m.f7 > (P.length : Int)
 ·simp only [if_pos c1]; exact Ev.const _
 simp only [if_neg c1]; rw [w64 (n := m.f7 - 1) (by omega) (by omega)]; simp only [if_pos (show (0 : Int) ≤ m.f7 - 1 by omega), if_pos (show m.f7 - 1 < (P.length : Int) by omega)]
 have fin : ∀ t : Int, t = trg m.f3 → Ev (fun k => F38.j0 k P t m.f0 m.f1 m.f2 m.f3 m.f4 m.f5 m.f6 m.f7 (rdv P (m.f7 - 1)).f0 (rdv P (m.f7 - 1)).f1 (rdv P (m.f7 - 1)).f2 (rdv P (m.f7 - 1)).f3 (rdv P (m.f7 - 1)).f4 (rdv P (m.f7 - 1)).f5 (rdv P (m.f7 - 1)).f6 (rdv P (m.f7 - 1)).f7)
   (if (rdv P (m.f7 - 1)).f2.toList = m.f2.toList ∧ (rdv P (m.f7 - 1)).f3 = trg m.f3 then (if m.f1 < (rdv P (m.f7 - 1)).f1 then 17 else if ¬ m.f3 = 5 ∧ m.f4 + qsum P m.f3 m.f7 > (rdv P (m.f7 - 1)).f4 then 21 else 0) else 28) := by
  intro t ht; subst ht; refine Ev.succ ?_
  by_cases c2 : (rdv P (m.f7 - 1)).f2.toList = m.f2.toList
  rotate_left
  ·simp only [F38.j0, if_neg c2, if_neg (show ¬ ((rdv P (m.f7 - 1)).f2.toList = m.f2.toList ∧ (rdv P (m.f7 - 1)).f3 = trg m.f3) from fun h => c2 h.1)]; refine Ev.succ ?_; simp only [F38.j1, if_true]; exact Ev.const _
  simp only [F38.j0, if_pos c2]; refine Ev.succ ?_
  by_cases c3 : (rdv P (m.f7 - 1)).f3 = trg m.f3
  rotate_left
  ·simp only [F38.j1, bne_iff_ne.2 c3, if_true, if_neg (show ¬ ((rdv P (m.f7 - 1)).f2.toList = m.f2.toList ∧ (rdv P (m.f7 - 1)).f3 = trg m.f3) from fun h => c3 h.2)]; exact Ev.const _
  simp only [F38.j1, bne_eq_false_iff_eq.2 c3, Bool.false_eq_true, if_false, if_pos (show (rdv P (m.f7 - 1)).f2.toList = m.f2.toList ∧ (rdv P (m.f7 - 1)).f3 = trg m.f3 from ⟨c2, c3⟩)]
  by_cases c4 : m.f1 < (rdv P (m.f7 - 1)).f1
  ·simp only [if_pos c4]; exact Ev.const _
  simp only [if_neg c4]; exact F38.go m (rdv P (m.f7 - 1)) P [] m.f4 0 rfl hP hl (by omega) (by simp; omega)
 by_cases c : m.f3 = 3
 ·simp only [if_pos c]; exact fin 2 (by simp [trg, c])
 ·simp only [if_neg c]; exact fin 1 (by simp [trg, c])
theorem F15.go (l : List MV) (hl : l.length ≤ 2000) (hz : ∀ y ∈ l, y.f2.size ≤ 1000000000000000 ∧ y.f6.size ≤ 1000000000000000) : ∀ (R P : List MV), P ++ R = l → Good P → Ev (fun k => F15.l0 k l (P.length : Int)) (chkv P R)
 | [], P, e, _ => by
  refine Ev.succ ?_; have : P.length = l.length := by rw [← e]; simp
  simp only [F15.l0, chkv, if_neg (show ¬ (P.length : Int) < (l.length : Int) by omega)]; exact Ev.const _
 | m :: R, P, e, hP => by
  have hPl : P.length + (R.length + 1) = l.length := by rw [← e]; simp
  have ht : l.take P.length = P := by rw [← e]; simp
  have hn : (P ++ [m]).length = P.length + 1 := by simp
  have hr : rd_T23 l (P.length : Int) = m := by rw [← e]; exact rdv_at P R m _ rfl
  have hzm := hz m (by rw [← e]; simp); refine Ev.succ ?_; simp only [F15.l0, chkv, if_pos (show (P.length : Int) < (l.length : Int) by omega), if_pos (show (0 : Int) ≤ (P.length : Int) by omega), hr]; rw [w64 (n := (P.length : Int) + 1) (by omega) (by omega)]
  by_cases c1 : m.f0 = (P.length : Int) + 1
  rotate_left
  ·simp only [if_neg c1]; exact Ev.const _
  simp only [if_pos c1]; refine Ev.bind (F13.eq m.f0 m.f1 m.f2 m.f3 m.f4 m.f5 m.f6 m.f7 hzm.1 hzm.2) ?_; show Ev (fun k => if onem m = 0 then _ else _) _
  by_cases c2 : onem m = 0
  rotate_left
  ·simp only [if_neg c2]; exact Ev.const _
  simp only [if_pos c2, F36.eq, Option.bind_some, if_pos (show (P.length : Int) ≤ (l.length : Int) by omega), Int.toNat_natCast, ht]; rw [show (P.length : Int) + 1 = ((P ++ [m]).length : Int) by rw [hn]; omega]
  by_cases c3 : folv m.f3 = true
  ·simp only [if_pos c3]; refine Ev.bind (F38.eq hP (by omega) c2 c3) ?_
   by_cases c4 : refv P m = 0
   ·simp only [if_pos c4]; exact F15.go l hl hz R (P ++ [m]) (by simpa using e) (hP.app c2)
   ·simp only [if_neg c4]; exact Ev.const _
  ·simp only [if_neg c3]; exact F15.go l hl hz R (P ++ [m]) (by simpa using e) (hP.app c2)
theorem F15.eq (l : List MV) (hz : ∀ y ∈ l, y.f2.size ≤ 1000000000000000 ∧ y.f6.size ≤ 1000000000000000) : Ev (fun k => F15.f k l) (Checkv l) := by
 unfold F15.f Checkv
 by_cases c : (l.length : Int) > 2000
 ·simp only [if_pos c]; exact Ev.const _
 ·simp only [if_neg c]; exact F15.go l (by omega) hz l [] rfl (by intro y hy; simp at hy)
def chgv (kind q : Int) : Int := if inv q 1 1000000000 = true then (if kind = 1 ∨ kind = 3 then q else if kind = 2 ∨ kind = 4 then -q else 0) else 0
theorem chgv_range (kind q : Int) : -1000000000 ≤ chgv kind q ∧ chgv kind q ≤ 1000000000 := by
 unfold chgv
 by_cases c : inv q 1 1000000000 = true
 ·have := of_decide_eq_true c; rw [if_pos c]
  by_cases d : kind = 1 ∨ kind = 3
  ·rw [if_pos d]; omega
  ·rw [if_neg d]
   by_cases e : kind = 2 ∨ kind = 4
   ·rw [if_pos e]; omega
   ·rw [if_neg e]; omega
 ·rw [if_neg c]; omega
theorem F41.eq (a b : Int) (c : ByteArray) (kind q e : Int) (f : ByteArray) (g : Int) : Ev (fun k => F41.f k a b c kind q e f g) (chgv kind q) := by
 unfold F41.f chgv
 simp only [F27.eq, Option.bind_some]
 by_cases i : inv q 1 1000000000 = true
 ·have hi := of_decide_eq_true i; simp only [if_pos i]
  by_cases x : kind = 1
  ·simp only [if_pos x, if_pos (show kind = 1 ∨ kind = 3 from .inl x)]; refine Ev.succ ?_; simp only [F41.j0, x, beq_self_eq_true, if_true]; exact Ev.const _
  ·simp only [if_neg x]; refine Ev.succ ?_
   by_cases y : kind = 3
   ·simp only [F41.j0, y, beq_self_eq_true, if_true, if_pos (show (3 : Int) = 1 ∨ (3 : Int) = 3 from .inr rfl)]; exact Ev.const _
   ·simp only [F41.j0, beq_eq_false_iff_ne.2 y, Bool.false_eq_true, if_false, if_neg (show ¬ (kind = 1 ∨ kind = 3) by simp [x, y])]; rw [w64 (n := -q) (by omega) (by omega)]
    by_cases z : kind = 2
    ·simp only [if_pos z, if_pos (show kind = 2 ∨ kind = 4 from .inl z)]; exact Ev.const _
    ·simp only [if_neg z]
     by_cases u : kind = 4
     ·simp only [if_pos u, if_pos (show kind = 2 ∨ kind = 4 from .inr u)]; exact Ev.const _
     ·simp only [if_neg u, if_neg (show ¬ (kind = 2 ∨ kind = 4) by simp [z, u])]; exact Ev.const _
 ·simp only [if_neg i]; exact Ev.const _
theorem F42.eq (a b : Int) (c : ByteArray) (kind q e : Int) (f : ByteArray) (g : Int) : Ev (fun k => F42.f k a b c kind q e f g) (chgv kind q) := by
 unfold F42.f
 by_cases i : inv q 1 1000000000 = true
 rotate_left
 ·have hi := of_decide_eq_false (bnot i)
  unfold chgv
  simp only [if_neg i]
  by_cases d : q < 1
  ·simp only [if_pos d]; refine Ev.succ ?_; simp only [F42.j0, if_true]; exact Ev.const _
  ·simp only [if_neg d, decide_eq_true (show q > 1000000000 by omega)]; refine Ev.succ ?_; simp only [F42.j0, if_true]; exact Ev.const _
 have hi := of_decide_eq_true i
 unfold chgv
 simp only [if_pos i, if_neg (show ¬ q < 1 by omega), decide_eq_false (show ¬ q > 1000000000 by omega)]; refine Ev.succ ?_; simp only [F42.j0, Bool.false_eq_true, if_false]
 by_cases x : kind = 1
 ·simp only [if_pos x, if_pos (show kind = 1 ∨ kind = 3 from .inl x)]; refine Ev.succ ?_; simp only [F42.j1, x, beq_self_eq_true, if_true]; exact Ev.const _
 ·simp only [if_neg x]; refine Ev.succ ?_
  by_cases y : kind = 3
  ·simp only [F42.j1, y, beq_self_eq_true, if_true, if_pos (show (3 : Int) = 1 ∨ (3 : Int) = 3 from .inr rfl)]; exact Ev.const _
  ·simp only [F42.j1, beq_eq_false_iff_ne.2 y, Bool.false_eq_true, if_false, if_neg (show ¬ (kind = 1 ∨ kind = 3) by simp [x, y])]; rw [w64 (n := -q) (by omega) (by omega)]
   by_cases z : kind = 2
   ·simp only [if_pos z, if_pos (show kind = 2 ∨ kind = 4 from .inl z)]; exact Ev.const _
   ·simp only [if_neg z]
    by_cases u : kind = 4
    ·simp only [if_pos u, if_pos (show kind = 2 ∨ kind = 4 from .inr u)]; exact Ev.const _
    ·simp only [if_neg u, if_neg (show ¬ (kind = 2 ∨ kind = 4) by simp [z, u])]; exact Ev.const _
def levv (i n : Int) (out : List Int) : List MV → List Int × Int × Int
 | [] => (out, -1, 0)
 | m :: r => if n + chgv m.f3 m.f4 < 0 then ([], i, 21) else if n + chgv m.f3 m.f4 > 1000000000 then ([], i, 4) else levv (i + 1) (n + chgv m.f3 m.f4) (out ++ [n + chgv m.f3 m.f4]) r
theorem levv_length : ∀ (r : List MV) (i n : Int) (out : List Int), (levv i n out r).1.length ≤ out.length + r.length
 | [], i, n, out => by simp [levv]
 | m :: r, i, n, out => by
  simp only [levv]
  split
  ·simp
  ·split
   ·simp
   ·have := levv_length r (i + 1) (n + chgv m.f3 m.f4) (out ++ [n + chgv m.f3 m.f4])
    simp at this ⊢; omega
theorem F19.go : ∀ (B A : List MV) (out : List Int) (n i N : Int), i = (A.length : Int) → N = ((A ++ B).length : Int) → N < 1000000 → out.length = A.length → 0 ≤ n → n ≤ 1000000000 → Ev (fun k => F19.l0 k out n (A ++ B) N i) (levv i n out B)
 | [], A, out, n, i, N, hi, hN, hm, ho, h0, h1 => by
  refine Ev.succ ?_; simp only [List.append_nil] at hN ⊢; simp only [F19.l0, levv, if_neg (show ¬ i < N by omega)]; exact Ev.const _
 | m :: B, A, out, n, i, N, hi, hN, hm, ho, h0, h1 => by
  have hN2 : N = (A.length : Int) + (B.length : Int) + 1 := by rw [hN]; simp; omega
  have hc := chgv_range m.f3 m.f4; refine Ev.succ ?_; simp only [F19.l0, levv, if_pos (show i < N by omega), if_pos (show (0 : Int) ≤ i by omega), if_pos (show i < ((A ++ m :: B).length : Int) by rw [← hN]; omega)]; rw [show rd_T23 (A ++ m :: B) i = m from rdv_at A B m i hi]; refine Ev.bind (F41.eq _ _ _ _ _ _ _ _) ?_; rw [w64 (n := n + chgv m.f3 m.f4) (by omega) (by omega), w64 (n := i + 1) (by omega) (by omega)]
  by_cases c : n + chgv m.f3 m.f4 < 0
  ·simp only [if_pos c]; exact Ev.const _
  simp only [if_neg c]
  by_cases d : n + chgv m.f3 m.f4 > 1000000000
  ·simp only [if_pos d]; exact Ev.const _
  simp only [if_neg d, if_pos (show out.length < 17592186044416 by omega)]; rw [show A ++ m :: B = (A ++ [m]) ++ B by simp]; exact F19.go B (A ++ [m]) _ _ (i + 1) N (by simp; omega) (by rw [hN]; simp) hm (by simp; omega) (by omega) (by omega)
theorem F20.go : ∀ (B A : List MV) (out : List Int) (n i : Int), i = (A.length : Int) → (N : Int) → N = ((A ++ B).length : Int) → N < 1000000 → out.length = A.length → 0 ≤ n → n ≤ 1000000000 → Ev (fun k => F20.l0 k (A ++ B) out n i) (levv i n out B)
 | [], A, out, n, i, hi, N, hN, hm, ho, h0, h1 => by
  refine Ev.succ ?_; simp only [List.append_nil] at hN ⊢; simp only [F20.l0, levv, if_neg (show ¬ i < (A.length : Int) by omega)]; exact Ev.const _
 | m :: B, A, out, n, i, hi, N, hN, hm, ho, h0, h1 => by
  have hN2 : ((A ++ m :: B).length : Int) = (A.length : Int) + (B.length : Int) + 1 := by simp; omega
  rw [hN2] at hN; have hc := chgv_range m.f3 m.f4; refine Ev.succ ?_; simp only [F20.l0, levv, if_pos (show i < ((A ++ m :: B).length : Int) by omega), if_pos (show (0 : Int) ≤ i by omega)]; rw [show rd_T23 (A ++ m :: B) i = m from rdv_at A B m i hi]; refine Ev.bind (F42.eq _ _ _ _ _ _ _ _) ?_; rw [w64 (n := n + chgv m.f3 m.f4) (by omega) (by omega), w64 (n := i + 1) (by omega) (by omega)]
  by_cases c : n + chgv m.f3 m.f4 < 0
  ·simp only [if_pos c]; exact Ev.const _
  simp only [if_neg c]
  by_cases d : n + chgv m.f3 m.f4 > 1000000000
  ·simp only [if_pos d]; exact Ev.const _
  simp only [if_neg d, if_pos (show out.length < 17592186044416 by omega)]; rw [show A ++ m :: B = (A ++ [m]) ++ B by simp]; exact F20.go B (A ++ [m]) _ _ (i + 1) (by simp; omega) N (by rw [hN]; simp; omega) hm (by simp; omega) (by omega) (by omega)
theorem F19.eq {l : List MV} (h : l.length < 1000000) : Ev (fun k => F19.f k l) (levv 0 0 [] l) := by
 unfold F19.f
 exact F19.go l [] [] 0 0 _ rfl rfl (by omega) rfl (by omega) (by omega)
theorem F20.eq {l : List MV} (h : l.length < 1000000) : Ev (fun k => F20.f k l) (levv 0 0 [] l) := by
 unfold F20.f
 exact F20.go l [] [] 0 0 rfl _ rfl (by simp; omega) rfl (by omega) (by omega)
theorem F21.go (L : List Int) (hs : L.length < 100000000000000) : ∀ (d : Nat) (i : Int), i + d = L.length → 0 ≤ i → Ev (fun k => F21.l0 k L L i) true
 | 0, i, hi, h0 => by
  refine Ev.succ ?_; have g : ¬ i < (L.length : Int) := by omega
  simp only [F21.l0, if_neg g]; exact Ev.const _
 | d + 1, i, hi, h0 => by
  refine Ev.succ ?_; have g : i < (L.length : Int) := by omega
  have e : wrap64 (i + 1) = i + 1 := w64 (by omega) (by omega); simp only [F21.l0, if_pos g, if_pos h0, if_true, e]; exact F21.go L hs d (i + 1) (by omega) (by omega)
theorem F21.self (L : List Int) (hs : L.length < 100000000000000) : Ev (fun k => F21.f k L L) true := by
 simp only [F21.f, if_true]; exact F21.go L hs L.length 0 (by omega) (by omega)
end Go.Proofs.YtegpappenmhndaaDoor.M
end
section
namespace Go.Proofs.YtegpappenmhndaaDoor.M
open Go.RowKit Go.Proofs.YtegpappenmhndaaDoorW.PrintWords Go.Proofs.YtegpappenmhndaaDoorW.PrintLast
set_option linter.unusedVariables false
theorem pure_MovesLevels : F6.Pure := by
 intro l hl; refine Ev.out (g := fun k => F6.f k l months) ?_
 unfold F6.f
 obtain ⟨b, hb, hb2⟩ := F10.ok l; refine Ev.bind hb ?_
 cases b with
 | false => simp only [Bool.false_eq_true, if_false]; exact Ev.bind F11.true (Ev.const _)
 | true =>
  have h40 := hb2 rfl; simp only [if_true]; refine Ev.bind (F19.eq (l := l) (by omega)) (Ev.bind (F20.eq (l := l) (by omega)) ?_); refine Ev.bind (F21.self _ (by have := levv_length l 0 0 []; simp at this; omega)) ?_; simp only [if_true]; exact Ev.bind F11.true (Ev.const _)
end Go.Proofs.YtegpappenmhndaaDoor.M
namespace Go.Proofs.YtegpappenmhndaaDoor.Pure
theorem MovesLevels : M.F6.Pure := M.pure_MovesLevels
end Go.Proofs.YtegpappenmhndaaDoor.Pure
end
section
namespace Go.Proofs.YtegpappenmhndaaDoor.M
open Go.ChangeShapes Go.WideShapes Go.ChangeAt Go.RowKit Go.Proofs.YtegpappenmhndaaDoorW.PrintWords Go.Proofs.YtegpappenmhndaaDoorW.PrintLast
abbrev laidL : List (String × DataW Unit) := [("accounting/days.lengths", Rows.laid_accounting_days_lengths)]
theorem gLen : Tryd.prog.globalNamed "accounting/days.lengths" = some 0 := by kernel_rfl
theorem tLen : (Tryd.prog.globals[0]?).map (·.type) = some 91 := by kernel_rfl
theorem cLen : Tryd.prog.cellsOf 91 = 12 := by kernel_rfl
theorem cInt : Tryd.prog.cellsOf 3 = 1 := by kernel_rfl
set_option maxRecDepth 100000 in
theorem tab_of_laid {W : World} (h : laidMetH Tryd.prog laidL W) : Tab W := by
 rw [MakeChecks.laidMetH_plain _ _ _ (by kernel_rfl)] at h; obtain ⟨ps, ⟨g0, t0, cs0, f0, p0, q0, hg0, ht0, hv0, hd0, _⟩, _⟩ := h; obtain rfl := Option.some.inj (gLen.symm.trans hg0); obtain rfl := Option.some.inj (tLen.symm.trans ht0); obtain ⟨xs, m1, rfl, hx1, hlen, hn3, hel⟩ := DataW.trod_array Tryd.underlying91 hd0
 have hxs : xs.map (·.1) = months.map (fun n => (DataW.lit (.int .i64 n) : DataW Unit)) := by
  have e := congrArg (fun y : DataW Unit × List MemPlace => y.1) hx1
  unfold Rows.laid_accounting_days_lengths at e
  injection e with e
  exact e.symm
 have each : ∀ i, i < 12 → cs0.toList[i]? = (months[i]?).map (Value.int .i64) := by
  intro i hi; have h1 := hel i hi; rw [cInt, Nat.mul_one] at h1; obtain ⟨x, hx⟩ : ∃ x, xs[i]? = some x := ⟨xs[i], List.getElem?_eq_getElem (by omega)⟩; rw [hx] at h1; obtain ⟨n, e1, e2, _⟩ := DataW.trod_int Tryd.underlying3 h1; have e3 := congrArg (fun l => l[i]?) hxs; simp only [List.getElem?_map, hx, Option.map_some, e2] at e3; have e4 := congrArg (fun l => l[0]?) e1; simp only [List.getElem?_take, List.getElem?_drop, Nat.add_zero, Nat.zero_lt_one, if_true, List.getElem?_cons_zero] at e4; rw [e4]
  cases hm : months[i]? with
  | none => rw [hm] at e3; cases e3
  | some m =>
   rw [hm] at e3; simp only [Option.map_some, Option.some.injEq, DataW.lit.injEq, Lit.int.injEq, true_and] at e3; rw [e3]
   rfl
 have hcs : cs0 = (months.map (Value.int .i64)).toArray := by
  rw [← Array.toList_inj]; apply List.ext_getElem?; intro i
  by_cases hi : i < 12
  ·rw [each i hi, List.getElem?_map]
  ·rw [List.getElem?_eq_none (by rw [hlen, cLen]; omega), List.getElem?_eq_none (by simp [months]; omega)]
 have hv := hv0; simp only [World.var?, gLen, Option.bind_some] at hv
 split at hv
 ·rename_i cs t fr hb
  obtain rfl := Option.some.inj hv; exact ⟨t, fr, by rw [hb, hcs]⟩
 ·cases hv
theorem door_met (os : Os) (args : Array Value) : laidMetH Tryd.prog laidL ((World.doorLaid Tryd.prog 400 os).forCall (fun _ _ => 0) ⟨#[], args, []⟩).memory :=
 laidMetH_of_parts3 (fuel := 8) (laidMet_of_run' 8 (by kernel_rfl) (by kernel_rfl)) (by kernel_rfl) (by kernel_rfl)
end Go.Proofs.YtegpappenmhndaaDoor.M
end
section
namespace Go.Proofs.YtegpappenmhndaaDoor.movesLevels
open Go.ChangeShapes Go.WideShapes Go.ChangeAt Go.RowKit Go.Proofs.YtegpappenmhndaaDoor.M Go.Proofs.YtegpappenmhndaaDoorW.PrintWords Go.Proofs.YtegpappenmhndaaDoorW.PrintLast
open Go.ChangeMaps (open_string shut_string)
set_option linter.unusedVariables false
theorem own : ownKnob Tryd.prog.godebug = none := by kernel_rfl
theorem laidOut : laidOutB Tryd.prog = true := by kernel_rfl
set_option maxRecDepth 100000 in
set_option maxHeartbeats 4000000 in
theorem lifted (os : Os) (started : os.Started) (H : Type) (enc : TypeId × Value → H) :
  ReturnsInHanded {} Tryd.checked os 6 .any (fun w args => (Rows.movesLevelsSpec.pre enc Tryd.prog Tryd.f6 Rows.movesLevelsRow.domain false w args ∧ laidMetH Tryd.prog Rows.movesLevelsRow.laid w) ∧ sizedMet enc Tryd.prog Tryd.f6 (OpenSpec.ofChange Rows.movesLevelsSpec) false w args) (Rows.movesLevelsSpec.post enc Tryd.prog Tryd.f6 false true false false) := by
 refine returnsInHanded_of_change_and (C := Tryd.checked) (X := fun w _ => laidMetH Tryd.prog Rows.movesLevelsRow.laid w) (fun _ _ _ hh h => h.of_heap hh) own started (by kernel_rfl) Tryd.func6
  (ChangeSpec.witness_shaped (enc := enc) (C := Tryd.checked) (os := os) (X := fun w _ => laidMetH Tryd.prog Rows.movesLevelsRow.laid w) false (World.doorLaid Tryd.prog 400 os) #[.slice none 0 0] 8 rfl (World.shaped_of_RefB (by kernel_rfl) (by kernel_rfl)) (by kernel_rfl) (by kernel_rfl) (by kernel_rfl) (door_met os _)) ?_
 intro W base args ds gs before hval0 hW hcnd hsz0 hL _; have hsz : (DataW.weightsEach Tryd.prog (Tryd.f6.params.toList ++ Rows.movesLevelsSpec.plain.varTypes Tryd.prog) (ds ++ gs)).all (· ≤ reachBytes) = true := hsz0; have hval : ∀ (j : Nat) t v, Tryd.f6.params[j]? = some t → args[j]? = some v → Value.okWide Tryd.prog W .any base t v := hval0; have hW' := hW; obtain ⟨p, q, hA0, hV, rfl, hfz, hnd⟩ := hW; have hA : DataW.TrodAll enc Tryd.prog W 0 (fun _ => true) true Tryd.f6.params.toList args.toList ds p := hA0; rw [Tryd.params6] at hA hval hsz; obtain ⟨v0, vs0, d0, ds0, p0, q0, hargs, rfl, rfl, h0, r0⟩ := trodAll_cons hA; obtain ⟨rfl, rfl, rfl⟩ := trodAll_nil r0; obtain rfl : args = #[v0] := by cases args; simp_all
 obtain ⟨rfl, rfl⟩ := trodVars_none hV; obtain ⟨a0, len0, cap0, rfl⟩ := okWide_slice Tryd.underlying25 (hval 0 25 v0 rfl rfl); have k0 := h0; have lt0 : ∀ x ∈ p0, x.block < W.heap.size := by obtain ⟨m, hm⟩ := k0; exact DataW.trod_lt m _ _ _ hm
 obtain ⟨x0, K0, g0⟩ : ∃ x_ : List (S23), (Kd.slice 23 k23).K W x_ [.slice a0 len0 cap0] ∧ (x_.length * 80 ≤ 140737488351232 ∧ ∀ y0_ ∈ x_, G23 y0_) := by obtain ⟨f, hf⟩ := h0; exact ((Opens.slice Tryd.underlying25 opens23 (by kernel_rfl) (b := 80) (by kernel_rfl))).get enc W 0 _ _ f _ _ hf (weights_at hsz (j := 0) (t := 25) rfl rfl)
 obtain ⟨A0, c0, e0, L0, C0⟩ := K0; injection e0 with e0 _
 injection e0 with e0a e0b e0c
 subst e0a e0b e0c; clear hA0 hval0 hsz0 hsz; obtain ⟨k, h⟩ := Pure.MovesLevels x0 g0; refine (M.F6.calls (k := k) (r := true) (w := W) (hr0 := C0) (hc0 := L0) (hr1 := kTab_of (tab_of_laid hL)) (hc1 := Nat.le_refl _) (h := h)).mono fun e W' ⟨he, bel0⟩ => ?_; have bel : Below W.heap.size W W' := by first | exact bel0 | exact bel0.below | (obtain ⟨nd, rfl⟩ := bel0; exact pw_below_drewN (Below.refl _ _) nd)
 subst he; exact ⟨_, rfl, _, _, _, [], _, [], hW', trodAll_mk1 (shut_bool Tryd.underlying4 _), (trodAll_cons_mk (Below.trod laidOut (by kernel_rfl) (of_decide_eq_true (by kernel_rfl)) k0 bel lt0) trodAll_mk0), rfl, bel.frame _, fun h => by cases h⟩
theorem over : Rows.movesLevelsRow.holds Tryd.pinned (OpenSpec.ofChange Rows.movesLevelsSpec) :=
 OpenClaim.holds_of_wide 6 Tryd.f6 rfl rfl rfl rfl rfl rfl rfl ⟨rfl, rfl, rfl, rfl, rfl⟩ rfl rfl rfl rfl rfl (by kernel_rfl) Tryd.func6 (by kernel_rfl)
  (of_decide_eq_true (by kernel_rfl)) (by unfold Func.isWrapper; first | (rw [if_pos (by decide +kernel)]; kernel_rfl) | (rw [if_neg (by decide +kernel)]; exact ⟨rfl, rfl⟩))
  (fun os started H enc _ => lifted os started H enc)
theorem proved : Rows.MovesLevelsCardSaid :=
 Claim7.holds_tied_plain_at .later [] [.data] true (true, "98db53edb2efb439c9ec8dc62e8b94103ef33d00be49343a9acd4b193d3e4474") false
  over (fun _ h => by cases h) (by kernel_rfl) (fun _ h => by cases h) movesLevels_row_tie rfl ⟨rfl, rfl⟩ (by kernel_rfl) rfl
  (fun f fn hf hfn => by
   obtain rfl : f = 6 := Option.some.inj ((show Tryd.prog.funcNamed "accounting/accountinglaw33.MovesLevels" = some 6 by kernel_rfl).symm.trans hf) |>.symm; obtain rfl : fn = Tryd.f6 := (Option.some.inj (Tryd.func6.symm.trans hfn)).symm
   exact ⟨by kernel_rfl, fun j t ht => by
    rw [Tryd.params6] at ht; have hm : t ∈ [25] := by simpa using Array.mem_of_getElem? ht
    have hall : ([25].all fun u => !Tryd.prog.wantsStandIn u) = true := by kernel_rfl
    exact (show Tryd.prog.wantsStandIn t = false by simpa using List.all_eq_true.1 hall t hm)⟩)
  (by kernel_rfl)
#print axioms proved
end Go.Proofs.YtegpappenmhndaaDoor.movesLevels
namespace Go.Proofs.YtegpappenmhndaaDoor
theorem movesLevels_holds : Rows.MovesLevelsCardSaid := movesLevels.proved
end Go.Proofs.YtegpappenmhndaaDoor
end
