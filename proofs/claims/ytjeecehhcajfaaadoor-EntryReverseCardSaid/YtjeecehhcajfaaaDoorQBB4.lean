/- What the claims of this seat share, part 4 of 9: what the program's functions compute. -/
import Derived.Test.YtjeecehhcajfaaaDoorQBB2
import Derived.Test.YtjeecehhcajfaaaDoorQBB3
import Derived.Test.YtjeecehhcajfaaaDoorQBB1
import Derived.ArgAppend
import Derived.Laws.OwnMore
import Derived.Laws.Externs
import Derived.Maps.Own
import Derived.MapKept
import Derived.Maps.RangeRun
namespace Go.Proofs.YtjeecehhcajfaaaDoor.M
theorem pbb4_0 {p : Prop} (h : p := by rw [hg]; exact Nat.ne_of_lt (blk_lt (g := gb101) (o := .cells #[.int .i64 a0_0, .string a0_1, .int .i64 a0_2, .int .i64 a0_3, .int .i64 a0_4, .string a0_5, .string a0_6, .int .i64 a0_7, .slice A0_8 l0_8.length c0_8] 33 (0, 0)) (by (with_reducible repeat (first | refine blk_drewN ?_ _ | refine blk_drew ?_ | refine blk_alloc ?_ _)); exact BK101.out))) : p := h
theorem pbb4_1 {p : Prop} (h : p := by rw [hg]; exact Nat.ne_of_gt (blk_lt (g := gb101) (o := .cells #[.int .i64 a0_0, .string a0_1, .int .i64 a0_2, .int .i64 a0_3, .int .i64 a0_4, .string a0_5, .string a0_6, .int .i64 a0_7, .slice A0_8 l0_8.length c0_8] 33 (0, 0)) (by (with_reducible repeat (first | refine blk_drewN ?_ _ | refine blk_drew ?_ | refine blk_alloc ?_ _)); exact BK101.out))) : p := h
theorem pbb4_2 {p : Prop} (h : p := by repeat (first | exact HR1.out | (with_reducible refine Kd.C_alloc ?_ _) | (with_reducible refine Kd.C_drewN ?_ _) | (with_reducible refine Kd.C_drew ?_))) : p := h
end Go.Proofs.YtjeecehhcajfaaaDoor.M
section
namespace Go.Proofs.YtjeecehhcajfaaaDoor.M
open Go.RowKit Go.Proofs.YtjeecehhcajfaaaDoorW.PrintWords Go.Proofs.YtjeecehhcajfaaaDoorW.PrintLast Go.Proofs.YtjeecehhcajfaaaDoorW.PrintMore
attribute [local go_sem] max2_int min2_int max_two min_two max_three min_three max_four min_four
set_option linter.unusedVariables false
set_option linter.unusedSimpArgs false
def F27.l0 : Nat → List (S24) → List (S24) → Int → Option (Bool)
  | 0, _, _, _ => none
  | k + 1, x0, x1, x5 => if x5 < (x0.length : Int) then (if 0 ≤ x5 then (if x5 < (x1.length : Int) then ((F56.f k ((rd_T24 x0 x5).f0) ((rd_T24 x0 x5).f1) ((rd_T24 x0 x5).f2) ((rd_T24 x0 x5).f3) ((rd_T24 x0 x5).f4) ((rd_T24 x0 x5).f5) ((rd_T24 x0 x5).f6) ((rd_T24 x1 x5).f0) ((rd_T24 x1 x5).f1) ((rd_T24 x1 x5).f2) ((rd_T24 x1 x5).f3) ((rd_T24 x1 x5).f4) ((rd_T24 x1 x5).f5) ((rd_T24 x1 x5).f6)).bind fun t103 => (if t103 = true then (F27.l0 k x0 x1 (wrap64 (x5 + 1))) else (some false))) else (none)) else (none)) else (some true)
def F27.f (k : Nat) (l0 : List (S24)) (l1 : List (S24)) : Option (Bool) := if (l0.length : Int) = (l1.length : Int) then (F27.l0 k l0 l1 0) else (some false)
def F27.T6 : Bool × List (List Nat × List Nat) := (true, [([], []), ([], []), ([0, 1], [0, 1]), ([2], [2]), ([], []), ([], []), ([4, 5], [4, 5]), ([6], [6]), ([3, 7], [3, 7]), ([8], [8])])
def F27.B6 : List Nat := [0, 0, 3, 7, 0, 0, 48, 112, 255, 511]
theorem F27.tab6 : rtab .any (opsOf Tryd.f27 6) = F27.T6 := by kernel_rfl
theorem F27.bits6 : waitsOk F27.T6.2 F27.B6 = true := by kernel_rfl
set_option maxHeartbeats 8000000 in
set_option maxRecDepth 100000 in
theorem F27.calls (k : Nat) (A0 : Option Addr) (c0 : Nat) (l0 : List (S24)) (A1 : Option Addr) (c1 : Nat) (l1 : List (S24)) (r : Bool) (w : World) (hr0 : Kd.C k24 w A0 l0.length l0) (hc0 : l0.length ≤ c0) (hr1 : Kd.C k24 w A1 l1.length l1) (hc1 : l1.length ≤ c1) (h : F27.f k l0 l1 = some r) :
    Calls Tryd.prog 27 #[.slice A0 l0.length c0, .slice A1 l1.length c1] w fun e w' => e = .returned (.bool r) ∧ Below w.heap.size w w' := by
 have hu24 := Tryd.underlying24; have HR0 := Aside0.mk hr0; have HC0 := Aside0.mk hc0; clear hr0 hc0; have HR1 := Aside0.mk hr1; have HC1 := Aside0.mk hc1; clear hr1 hc1; have HB := Aside0.mk (Below.refl w.heap.size w)
 unfold F27.f at h
 have H := h; clear h
 by_cases c3 : (l0.length : Int) = (l1.length : Int)
 ·rw [if_pos c3] at H; have c3b0 := bT_ c3; have c3b1 := bF_ c3; have c3b2 : (l0.length == l1.length) = true := by first | simpa using c3 | (simp at c3 ⊢; omega)
  clear c3; have H' := Aside0.mk H; clear H; go_enter Tryd.func27, Tryd.ntmps27
  go_wp2
  go_loopg [5] k (fun kq v5 w' => ∃ (x5_1 : Int), v5 = .int .i64 x5_1 ∧ Aside0 (F27.l0 kq l0 l1 x5_1 = some r) ∧ Aside0 (kq ≤ k) ∧ Aside0 (Below w.heap.size w w'))
  case atStart => exact ⟨(0), pbb2_3, H', ⟨Nat.le_refl _⟩, ⟨pbb2_9⟩⟩
  case round =>
   clear H'; obtain ⟨x5_1, rfl, HA, HK1, HB⟩ := hrel
   cases gk with
   | zero => exact absurd HA.out (by simp [F27.l0])
   | succ k1 =>
    have H := HA.out; clear HA; simp only [F27.l0] at H
    by_cases c4 : x5_1 < (l0.length : Int)
    ·rw [if_pos c4] at H; have c4b0 := decide_eq_true c4; clear c4
     by_cases c5 : 0 ≤ x5_1
     ·rw [if_pos c5] at H; have c5b0 := decide_eq_true c5; clear c5
      by_cases c6 : x5_1 < (l1.length : Int)
      ·rw [if_pos c6] at H; have c6b0 := decide_eq_true c6; clear c6; obtain ⟨t103, A70, H⟩ := bnd H; have A7 := Aside0.mk A70; clear A70
       by_cases c8 : t103 = true
       ·subst c8; rw [if_pos rfl] at H; have H' := Aside0.mk H; clear H; (try go_wp2); replace HB := Aside0.mk (below_drew1 HB.out); have p101 : 0 ≤ (x5_1 : Int) := of_decide_eq_true pbb2_6; have q101 : x5_1 < (l0.length : Int) := of_decide_eq_true pbb2_6; obtain ⟨ad101, A101_6, c101_6, e101, hx101_0, hx101_1, hx101_2, hx101_3, hx101_4, hx101_5, hx101_6, hl101_6, hi101_6⟩ := at_T24 HR0.out x5_1 p101 q101; have hw101_6 := hx101_6; have hw101_5 := hx101_5; have hw101_4 := hx101_4; have hw101_3 := hx101_3; have hw101_2 := hx101_2; have hw101_1 := hx101_1; have hw101_0 := hx101_0
        cases e101
        replace hx101_0 := (HB.out.cell (World.block_lt_of_cell? w _ hx101_0)).trans hx101_0; replace hx101_1 := (HB.out.cell (World.block_lt_of_cell? w _ hx101_1)).trans hx101_1; replace hx101_2 := (HB.out.cell (World.block_lt_of_cell? w _ hx101_2)).trans hx101_2; replace hx101_3 := (HB.out.cell (World.block_lt_of_cell? w _ hx101_3)).trans hx101_3; replace hx101_4 := (HB.out.cell (World.block_lt_of_cell? w _ hx101_4)).trans hx101_4; replace hx101_5 := (HB.out.cell (World.block_lt_of_cell? w _ hx101_5)).trans hx101_5; replace hx101_6 := (HB.out.cell (World.block_lt_of_cell? w _ hx101_6)).trans hx101_6; have HR101_6 := Aside0.mk hi101_6; have HC101_6 := Aside0.mk hl101_6; clear hi101_6 hl101_6; replace p101 := eq_true p101; replace q101 := eq_true q101; have p102 : 0 ≤ (x5_1 : Int) := of_decide_eq_true pbb2_6; have q102 : x5_1 < (l1.length : Int) := of_decide_eq_true pbb2_6; obtain ⟨ad102, A102_6, c102_6, e102, hx102_0, hx102_1, hx102_2, hx102_3, hx102_4, hx102_5, hx102_6, hl102_6, hi102_6⟩ := at_T24 HR1.out x5_1 p102 q102; have hw102_6 := hx102_6; have hw102_5 := hx102_5; have hw102_4 := hx102_4; have hw102_3 := hx102_3; have hw102_2 := hx102_2; have hw102_1 := hx102_1; have hw102_0 := hx102_0
        cases e102
        replace hx102_0 := (HB.out.cell (World.block_lt_of_cell? w _ hx102_0)).trans hx102_0; replace hx102_1 := (HB.out.cell (World.block_lt_of_cell? w _ hx102_1)).trans hx102_1; replace hx102_2 := (HB.out.cell (World.block_lt_of_cell? w _ hx102_2)).trans hx102_2; replace hx102_3 := (HB.out.cell (World.block_lt_of_cell? w _ hx102_3)).trans hx102_3; replace hx102_4 := (HB.out.cell (World.block_lt_of_cell? w _ hx102_4)).trans hx102_4; replace hx102_5 := (HB.out.cell (World.block_lt_of_cell? w _ hx102_5)).trans hx102_5; replace hx102_6 := (HB.out.cell (World.block_lt_of_cell? w _ hx102_6)).trans hx102_6; have HR102_6 := Aside0.mk hi102_6; have HC102_6 := Aside0.mk hl102_6; clear hi102_6 hl102_6; replace p102 := eq_true p102; replace q102 := eq_true q102; refine start_ (n := 10) (S := fun w' => w'.cell? (ad101.add ((x5_1).toNat * 7)) = some (.string ((rd_T24 l0 x5_1).f0)) ∧ w'.cell? ⟨(ad101.add ((x5_1).toNat * 7)).block, (ad101.add ((x5_1).toNat * 7)).off + 1, none⟩ = some (.string ((rd_T24 l0 x5_1).f1)) ∧ w'.cell? ⟨(ad101.add ((x5_1).toNat * 7)).block, (ad101.add ((x5_1).toNat * 7)).off + 2, none⟩ = some (.int .i64 ((rd_T24 l0 x5_1).f2)) ∧ w'.cell? ⟨(ad101.add ((x5_1).toNat * 7)).block, (ad101.add ((x5_1).toNat * 7)).off + 3, none⟩ = some (.int .i64 ((rd_T24 l0 x5_1).f3)) ∧ w'.cell? ⟨(ad101.add ((x5_1).toNat * 7)).block, (ad101.add ((x5_1).toNat * 7)).off + 4, none⟩ = some (.string ((rd_T24 l0 x5_1).f4)) ∧ w'.cell? ⟨(ad101.add ((x5_1).toNat * 7)).block, (ad101.add ((x5_1).toNat * 7)).off + 5, none⟩ = some (.string ((rd_T24 l0 x5_1).f5)) ∧ w'.cell? ⟨(ad101.add ((x5_1).toNat * 7)).block, (ad101.add ((x5_1).toNat * 7)).off + 6, none⟩ = some (.slice A101_6 ((rd_T24 l0 x5_1).f6).length c101_6) ∧ w'.cell? (ad102.add ((x5_1).toNat * 7)) = some (.string ((rd_T24 l1 x5_1).f0)) ∧ w'.cell? ⟨(ad102.add ((x5_1).toNat * 7)).block, (ad102.add ((x5_1).toNat * 7)).off + 1, none⟩ = some (.string ((rd_T24 l1 x5_1).f1)) ∧ w'.cell? ⟨(ad102.add ((x5_1).toNat * 7)).block, (ad102.add ((x5_1).toNat * 7)).off + 2, none⟩ = some (.int .i64 ((rd_T24 l1 x5_1).f2)) ∧ w'.cell? ⟨(ad102.add ((x5_1).toNat * 7)).block, (ad102.add ((x5_1).toNat * 7)).off + 3, none⟩ = some (.int .i64 ((rd_T24 l1 x5_1).f3)) ∧ w'.cell? ⟨(ad102.add ((x5_1).toNat * 7)).block, (ad102.add ((x5_1).toNat * 7)).off + 4, none⟩ = some (.string ((rd_T24 l1 x5_1).f4)) ∧ w'.cell? ⟨(ad102.add ((x5_1).toNat * 7)).block, (ad102.add ((x5_1).toNat * 7)).off + 5, none⟩ = some (.string ((rd_T24 l1 x5_1).f5)) ∧ w'.cell? ⟨(ad102.add ((x5_1).toNat * 7)).block, (ad102.add ((x5_1).toNat * 7)).off + 6, none⟩ = some (.slice A102_6 ((rd_T24 l1 x5_1).f6).length c102_6)) (ds := []) (bq 10 0) (by kernel_rfl) rfl rfl ⟨((HB.out.cell (World.block_lt_of_cell? w _ hw101_0)).trans hw101_0), ((HB.out.cell (World.block_lt_of_cell? w _ hw101_1)).trans hw101_1), ((HB.out.cell (World.block_lt_of_cell? w _ hw101_2)).trans hw101_2), ((HB.out.cell (World.block_lt_of_cell? w _ hw101_3)).trans hw101_3), ((HB.out.cell (World.block_lt_of_cell? w _ hw101_4)).trans hw101_4), ((HB.out.cell (World.block_lt_of_cell? w _ hw101_5)).trans hw101_5), ((HB.out.cell (World.block_lt_of_cell? w _ hw101_6)).trans hw101_6), ((HB.out.cell (World.block_lt_of_cell? w _ hw102_0)).trans hw102_0), ((HB.out.cell (World.block_lt_of_cell? w _ hw102_1)).trans hw102_1), ((HB.out.cell (World.block_lt_of_cell? w _ hw102_2)).trans hw102_2), ((HB.out.cell (World.block_lt_of_cell? w _ hw102_3)).trans hw102_3), ((HB.out.cell (World.block_lt_of_cell? w _ hw102_4)).trans hw102_4), ((HB.out.cell (World.block_lt_of_cell? w _ hw102_5)).trans hw102_5), ((HB.out.cell (World.block_lt_of_cell? w _ hw102_6)).trans hw102_6)⟩ (fun hHeld => ?_); refine with_tabW F27.tab6 F27.bits6 (fun HT_ HW_ => ?_); generalize wr.drew = w9 at HB HR101_6 HR102_6 hx101_0 hx101_1 hx101_2 hx101_3 hx101_4 hx101_5 hx101_6 hx102_0 hx102_1 hx102_2 hx102_3 hx102_4 hx102_5 hx102_6 hHeld ⊢; refine pv_ 0 17 (bq 10 1) HT_ ?_; refine pv_ 1 18 (bq 10 3) HT_ ?_; refine pv_ 2 19 (bq 10 7) HT_ ?_; refine pv_ 4 21 (bq 10 23) HT_ ?_; refine pv_ 5 22 (bq 10 55) HT_ ?_; refine pv_ 6 23 (bq 10 119) HT_ ?_; refine take_ (i := 3) (N := some 20) (v := ?_) (a' := ?_) (bq 10 127) rfl rfl (take_ofW HT_.out HW_.out (by kernel_rfl)) (fun _ _ _ h => h) (Or.inl ⟨by rfl, ?_⟩) hHeld ?_ ?_; rotate_left
        ·rintro w' ⟨s0, s1, s2, s3, s4, s5, s6, s7, s8, s9, s10, s11, s12, s13⟩; go_simp; (with_reducible rfl)
        rotate_left
        ·exact cbb2_0
        refine take_ (i := 7) (N := some 24) (v := ?_) (a' := ?_) (bq 10 255) rfl rfl (take_ofW HT_.out HW_.out (by kernel_rfl)) (fun _ _ _ h => h) (Or.inl ⟨by rfl, ?_⟩) hHeld ?_ ?_; rotate_left
        ·rintro w' ⟨s0, s1, s2, s3, s4, s5, s6, s7, s8, s9, s10, s11, s12, s13⟩; go_simp; (with_reducible rfl)
        rotate_left
        ·exact cbb2_0
        refine one_ (i := 8) (N := some 25) (bq 10 511) rfl rfl (one_of HT_.out (by kernel_rfl)) (by decide) (fun K hK => ?_); refine goes_ Tryd.func56 (by kernel_rfl) rfl #[.agg #[.string ((rd_T24 l0 x5_1).f0), .string ((rd_T24 l0 x5_1).f1), .int .i64 ((rd_T24 l0 x5_1).f2), .int .i64 ((rd_T24 l0 x5_1).f3), .string ((rd_T24 l0 x5_1).f4), .string ((rd_T24 l0 x5_1).f5), .slice A101_6 ((rd_T24 l0 x5_1).f6).length c101_6], .agg #[.string ((rd_T24 l1 x5_1).f0), .string ((rd_T24 l1 x5_1).f1), .int .i64 ((rd_T24 l1 x5_1).f2), .int .i64 ((rd_T24 l1 x5_1).f3), .string ((rd_T24 l1 x5_1).f4), .string ((rd_T24 l1 x5_1).f5), .slice A102_6 ((rd_T24 l1 x5_1).f6).length c102_6]] (by rfl) rfl rfl pbb2_5 ?_; (with_reducible refine (F56.calls k1 ((rd_T24 l0 x5_1).f0) ((rd_T24 l0 x5_1).f1) ((rd_T24 l0 x5_1).f2) ((rd_T24 l0 x5_1).f3) ((rd_T24 l0 x5_1).f4) ((rd_T24 l0 x5_1).f5) _ _ ((rd_T24 l0 x5_1).f6) ((rd_T24 l1 x5_1).f0) ((rd_T24 l1 x5_1).f1) ((rd_T24 l1 x5_1).f2) ((rd_T24 l1 x5_1).f3) ((rd_T24 l1 x5_1).f4) ((rd_T24 l1 x5_1).f5) _ _ ((rd_T24 l1 x5_1).f6) true _ ?side1 ?side2 ?side3 ?side4 A7.out).mono ?_); (case side1 => repeat (first | exact (Kd.C_below HR101_6.out HB.out) | (with_reducible refine Kd.C_alloc ?_ _) | (with_reducible refine Kd.C_drewN ?_ _) | (with_reducible refine Kd.C_drew ?_))); (case side2 => exact HC101_6.out); (case side3 => repeat (first | exact (Kd.C_below HR102_6.out HB.out) | (with_reducible refine Kd.C_alloc ?_ _) | (with_reducible refine Kd.C_drewN ?_ _) | (with_reducible refine Kd.C_drew ?_))); (case side4 => exact HC102_6.out); rintro e w10 ⟨rfl, hb⟩; refine ⟨_, rfl, ?_⟩; replace HB := Aside0.mk (below_step pbb2_9 hb); (try clear hb); (try clear hb2); (try clear hk); (try clear hi); refine hK.out _ _ ⟨((HB.out.cell (World.block_lt_of_cell? w _ hw101_0)).trans hw101_0), ((HB.out.cell (World.block_lt_of_cell? w _ hw101_1)).trans hw101_1), ((HB.out.cell (World.block_lt_of_cell? w _ hw101_2)).trans hw101_2), ((HB.out.cell (World.block_lt_of_cell? w _ hw101_3)).trans hw101_3), ((HB.out.cell (World.block_lt_of_cell? w _ hw101_4)).trans hw101_4), ((HB.out.cell (World.block_lt_of_cell? w _ hw101_5)).trans hw101_5), ((HB.out.cell (World.block_lt_of_cell? w _ hw101_6)).trans hw101_6), ((HB.out.cell (World.block_lt_of_cell? w _ hw102_0)).trans hw102_0), ((HB.out.cell (World.block_lt_of_cell? w _ hw102_1)).trans hw102_1), ((HB.out.cell (World.block_lt_of_cell? w _ hw102_2)).trans hw102_2), ((HB.out.cell (World.block_lt_of_cell? w _ hw102_3)).trans hw102_3), ((HB.out.cell (World.block_lt_of_cell? w _ hw102_4)).trans hw102_4), ((HB.out.cell (World.block_lt_of_cell? w _ hw102_5)).trans hw102_5), ((HB.out.cell (World.block_lt_of_cell? w _ hw102_6)).trans hw102_6)⟩ (fun hHeld => ?_); clear hK K; refine norm_ (a' := ?_) ?_ ?_; rotate_left
        ·show Act.put _ (some 25) _ = _; simp only [Act.put, List.setIfInBounds_toArray, List.set_cons_zero, List.set_cons_succ, i64_w, i32_w]
         rfl
        refine pv_ 9 26 (bq 10 1023) HT_ ?_; refine done_ (done_of HT_.out (by kernel_rfl)) ?_; (try go_wp2)
        go_roundg k1
        case measure => have := HK1.out; omega
        case rel => exact ⟨(wrap64 (x5_1 + 1)), pbb2_3, H', ⟨pbb2_7⟩, ⟨pbb2_9⟩⟩
       ·replace c8 := Bool.eq_false_iff.mpr c8; subst c8; rw [if_neg (show ¬ (false = true) by decide)] at H; obtain rfl := Option.some.inj H; (try go_wp2); replace HB := Aside0.mk (below_drew1 HB.out); have p101 : 0 ≤ (x5_1 : Int) := of_decide_eq_true pbb2_6; have q101 : x5_1 < (l0.length : Int) := of_decide_eq_true pbb2_6; obtain ⟨ad101, A101_6, c101_6, e101, hx101_0, hx101_1, hx101_2, hx101_3, hx101_4, hx101_5, hx101_6, hl101_6, hi101_6⟩ := at_T24 HR0.out x5_1 p101 q101; have hw101_6 := hx101_6; have hw101_5 := hx101_5; have hw101_4 := hx101_4; have hw101_3 := hx101_3; have hw101_2 := hx101_2; have hw101_1 := hx101_1; have hw101_0 := hx101_0
        cases e101
        replace hx101_0 := (HB.out.cell (World.block_lt_of_cell? w _ hx101_0)).trans hx101_0; replace hx101_1 := (HB.out.cell (World.block_lt_of_cell? w _ hx101_1)).trans hx101_1; replace hx101_2 := (HB.out.cell (World.block_lt_of_cell? w _ hx101_2)).trans hx101_2; replace hx101_3 := (HB.out.cell (World.block_lt_of_cell? w _ hx101_3)).trans hx101_3; replace hx101_4 := (HB.out.cell (World.block_lt_of_cell? w _ hx101_4)).trans hx101_4; replace hx101_5 := (HB.out.cell (World.block_lt_of_cell? w _ hx101_5)).trans hx101_5; replace hx101_6 := (HB.out.cell (World.block_lt_of_cell? w _ hx101_6)).trans hx101_6; have HR101_6 := Aside0.mk hi101_6; have HC101_6 := Aside0.mk hl101_6; clear hi101_6 hl101_6; replace p101 := eq_true p101; replace q101 := eq_true q101; have p102 : 0 ≤ (x5_1 : Int) := of_decide_eq_true pbb2_6; have q102 : x5_1 < (l1.length : Int) := of_decide_eq_true pbb2_6; obtain ⟨ad102, A102_6, c102_6, e102, hx102_0, hx102_1, hx102_2, hx102_3, hx102_4, hx102_5, hx102_6, hl102_6, hi102_6⟩ := at_T24 HR1.out x5_1 p102 q102; have hw102_6 := hx102_6; have hw102_5 := hx102_5; have hw102_4 := hx102_4; have hw102_3 := hx102_3; have hw102_2 := hx102_2; have hw102_1 := hx102_1; have hw102_0 := hx102_0
        cases e102
        replace hx102_0 := (HB.out.cell (World.block_lt_of_cell? w _ hx102_0)).trans hx102_0; replace hx102_1 := (HB.out.cell (World.block_lt_of_cell? w _ hx102_1)).trans hx102_1; replace hx102_2 := (HB.out.cell (World.block_lt_of_cell? w _ hx102_2)).trans hx102_2; replace hx102_3 := (HB.out.cell (World.block_lt_of_cell? w _ hx102_3)).trans hx102_3; replace hx102_4 := (HB.out.cell (World.block_lt_of_cell? w _ hx102_4)).trans hx102_4; replace hx102_5 := (HB.out.cell (World.block_lt_of_cell? w _ hx102_5)).trans hx102_5; replace hx102_6 := (HB.out.cell (World.block_lt_of_cell? w _ hx102_6)).trans hx102_6; have HR102_6 := Aside0.mk hi102_6; have HC102_6 := Aside0.mk hl102_6; clear hi102_6 hl102_6; replace p102 := eq_true p102; replace q102 := eq_true q102; refine start_ (n := 10) (S := fun w' => w'.cell? (ad101.add ((x5_1).toNat * 7)) = some (.string ((rd_T24 l0 x5_1).f0)) ∧ w'.cell? ⟨(ad101.add ((x5_1).toNat * 7)).block, (ad101.add ((x5_1).toNat * 7)).off + 1, none⟩ = some (.string ((rd_T24 l0 x5_1).f1)) ∧ w'.cell? ⟨(ad101.add ((x5_1).toNat * 7)).block, (ad101.add ((x5_1).toNat * 7)).off + 2, none⟩ = some (.int .i64 ((rd_T24 l0 x5_1).f2)) ∧ w'.cell? ⟨(ad101.add ((x5_1).toNat * 7)).block, (ad101.add ((x5_1).toNat * 7)).off + 3, none⟩ = some (.int .i64 ((rd_T24 l0 x5_1).f3)) ∧ w'.cell? ⟨(ad101.add ((x5_1).toNat * 7)).block, (ad101.add ((x5_1).toNat * 7)).off + 4, none⟩ = some (.string ((rd_T24 l0 x5_1).f4)) ∧ w'.cell? ⟨(ad101.add ((x5_1).toNat * 7)).block, (ad101.add ((x5_1).toNat * 7)).off + 5, none⟩ = some (.string ((rd_T24 l0 x5_1).f5)) ∧ w'.cell? ⟨(ad101.add ((x5_1).toNat * 7)).block, (ad101.add ((x5_1).toNat * 7)).off + 6, none⟩ = some (.slice A101_6 ((rd_T24 l0 x5_1).f6).length c101_6) ∧ w'.cell? (ad102.add ((x5_1).toNat * 7)) = some (.string ((rd_T24 l1 x5_1).f0)) ∧ w'.cell? ⟨(ad102.add ((x5_1).toNat * 7)).block, (ad102.add ((x5_1).toNat * 7)).off + 1, none⟩ = some (.string ((rd_T24 l1 x5_1).f1)) ∧ w'.cell? ⟨(ad102.add ((x5_1).toNat * 7)).block, (ad102.add ((x5_1).toNat * 7)).off + 2, none⟩ = some (.int .i64 ((rd_T24 l1 x5_1).f2)) ∧ w'.cell? ⟨(ad102.add ((x5_1).toNat * 7)).block, (ad102.add ((x5_1).toNat * 7)).off + 3, none⟩ = some (.int .i64 ((rd_T24 l1 x5_1).f3)) ∧ w'.cell? ⟨(ad102.add ((x5_1).toNat * 7)).block, (ad102.add ((x5_1).toNat * 7)).off + 4, none⟩ = some (.string ((rd_T24 l1 x5_1).f4)) ∧ w'.cell? ⟨(ad102.add ((x5_1).toNat * 7)).block, (ad102.add ((x5_1).toNat * 7)).off + 5, none⟩ = some (.string ((rd_T24 l1 x5_1).f5)) ∧ w'.cell? ⟨(ad102.add ((x5_1).toNat * 7)).block, (ad102.add ((x5_1).toNat * 7)).off + 6, none⟩ = some (.slice A102_6 ((rd_T24 l1 x5_1).f6).length c102_6)) (ds := []) (bq 10 0) (by kernel_rfl) rfl rfl ⟨((HB.out.cell (World.block_lt_of_cell? w _ hw101_0)).trans hw101_0), ((HB.out.cell (World.block_lt_of_cell? w _ hw101_1)).trans hw101_1), ((HB.out.cell (World.block_lt_of_cell? w _ hw101_2)).trans hw101_2), ((HB.out.cell (World.block_lt_of_cell? w _ hw101_3)).trans hw101_3), ((HB.out.cell (World.block_lt_of_cell? w _ hw101_4)).trans hw101_4), ((HB.out.cell (World.block_lt_of_cell? w _ hw101_5)).trans hw101_5), ((HB.out.cell (World.block_lt_of_cell? w _ hw101_6)).trans hw101_6), ((HB.out.cell (World.block_lt_of_cell? w _ hw102_0)).trans hw102_0), ((HB.out.cell (World.block_lt_of_cell? w _ hw102_1)).trans hw102_1), ((HB.out.cell (World.block_lt_of_cell? w _ hw102_2)).trans hw102_2), ((HB.out.cell (World.block_lt_of_cell? w _ hw102_3)).trans hw102_3), ((HB.out.cell (World.block_lt_of_cell? w _ hw102_4)).trans hw102_4), ((HB.out.cell (World.block_lt_of_cell? w _ hw102_5)).trans hw102_5), ((HB.out.cell (World.block_lt_of_cell? w _ hw102_6)).trans hw102_6)⟩ (fun hHeld => ?_); refine with_tabW F27.tab6 F27.bits6 (fun HT_ HW_ => ?_); generalize wr.drew = w11 at HB HR101_6 HR102_6 hx101_0 hx101_1 hx101_2 hx101_3 hx101_4 hx101_5 hx101_6 hx102_0 hx102_1 hx102_2 hx102_3 hx102_4 hx102_5 hx102_6 hHeld ⊢; refine pv_ 0 17 (bq 10 1) HT_ ?_; refine pv_ 1 18 (bq 10 3) HT_ ?_; refine pv_ 2 19 (bq 10 7) HT_ ?_; refine pv_ 4 21 (bq 10 23) HT_ ?_; refine pv_ 5 22 (bq 10 55) HT_ ?_; refine pv_ 6 23 (bq 10 119) HT_ ?_; refine take_ (i := 3) (N := some 20) (v := ?_) (a' := ?_) (bq 10 127) rfl rfl (take_ofW HT_.out HW_.out (by kernel_rfl)) (fun _ _ _ h => h) (Or.inl ⟨by rfl, ?_⟩) hHeld ?_ ?_; rotate_left
        ·rintro w' ⟨s0, s1, s2, s3, s4, s5, s6, s7, s8, s9, s10, s11, s12, s13⟩; go_simp; (with_reducible rfl)
        rotate_left
        ·exact cbb2_0
        refine take_ (i := 7) (N := some 24) (v := ?_) (a' := ?_) (bq 10 255) rfl rfl (take_ofW HT_.out HW_.out (by kernel_rfl)) (fun _ _ _ h => h) (Or.inl ⟨by rfl, ?_⟩) hHeld ?_ ?_; rotate_left
        ·rintro w' ⟨s0, s1, s2, s3, s4, s5, s6, s7, s8, s9, s10, s11, s12, s13⟩; go_simp; (with_reducible rfl)
        rotate_left
        ·exact cbb2_0
        refine one_ (i := 8) (N := some 25) (bq 10 511) rfl rfl (one_of HT_.out (by kernel_rfl)) (by decide) (fun K hK => ?_); refine goes_ Tryd.func56 (by kernel_rfl) rfl #[.agg #[.string ((rd_T24 l0 x5_1).f0), .string ((rd_T24 l0 x5_1).f1), .int .i64 ((rd_T24 l0 x5_1).f2), .int .i64 ((rd_T24 l0 x5_1).f3), .string ((rd_T24 l0 x5_1).f4), .string ((rd_T24 l0 x5_1).f5), .slice A101_6 ((rd_T24 l0 x5_1).f6).length c101_6], .agg #[.string ((rd_T24 l1 x5_1).f0), .string ((rd_T24 l1 x5_1).f1), .int .i64 ((rd_T24 l1 x5_1).f2), .int .i64 ((rd_T24 l1 x5_1).f3), .string ((rd_T24 l1 x5_1).f4), .string ((rd_T24 l1 x5_1).f5), .slice A102_6 ((rd_T24 l1 x5_1).f6).length c102_6]] (by rfl) rfl rfl pbb2_5 ?_; (with_reducible refine (F56.calls k1 ((rd_T24 l0 x5_1).f0) ((rd_T24 l0 x5_1).f1) ((rd_T24 l0 x5_1).f2) ((rd_T24 l0 x5_1).f3) ((rd_T24 l0 x5_1).f4) ((rd_T24 l0 x5_1).f5) _ _ ((rd_T24 l0 x5_1).f6) ((rd_T24 l1 x5_1).f0) ((rd_T24 l1 x5_1).f1) ((rd_T24 l1 x5_1).f2) ((rd_T24 l1 x5_1).f3) ((rd_T24 l1 x5_1).f4) ((rd_T24 l1 x5_1).f5) _ _ ((rd_T24 l1 x5_1).f6) false _ ?side1 ?side2 ?side3 ?side4 A7.out).mono ?_); (case side1 => repeat (first | exact (Kd.C_below HR101_6.out HB.out) | (with_reducible refine Kd.C_alloc ?_ _) | (with_reducible refine Kd.C_drewN ?_ _) | (with_reducible refine Kd.C_drew ?_))); (case side2 => exact HC101_6.out); (case side3 => repeat (first | exact (Kd.C_below HR102_6.out HB.out) | (with_reducible refine Kd.C_alloc ?_ _) | (with_reducible refine Kd.C_drewN ?_ _) | (with_reducible refine Kd.C_drew ?_))); (case side4 => exact HC102_6.out); rintro e w12 ⟨rfl, hb⟩; refine ⟨_, rfl, ?_⟩; replace HB := Aside0.mk (below_step pbb2_9 hb); (try clear hb); (try clear hb2); (try clear hk); (try clear hi); refine hK.out _ _ ⟨((HB.out.cell (World.block_lt_of_cell? w _ hw101_0)).trans hw101_0), ((HB.out.cell (World.block_lt_of_cell? w _ hw101_1)).trans hw101_1), ((HB.out.cell (World.block_lt_of_cell? w _ hw101_2)).trans hw101_2), ((HB.out.cell (World.block_lt_of_cell? w _ hw101_3)).trans hw101_3), ((HB.out.cell (World.block_lt_of_cell? w _ hw101_4)).trans hw101_4), ((HB.out.cell (World.block_lt_of_cell? w _ hw101_5)).trans hw101_5), ((HB.out.cell (World.block_lt_of_cell? w _ hw101_6)).trans hw101_6), ((HB.out.cell (World.block_lt_of_cell? w _ hw102_0)).trans hw102_0), ((HB.out.cell (World.block_lt_of_cell? w _ hw102_1)).trans hw102_1), ((HB.out.cell (World.block_lt_of_cell? w _ hw102_2)).trans hw102_2), ((HB.out.cell (World.block_lt_of_cell? w _ hw102_3)).trans hw102_3), ((HB.out.cell (World.block_lt_of_cell? w _ hw102_4)).trans hw102_4), ((HB.out.cell (World.block_lt_of_cell? w _ hw102_5)).trans hw102_5), ((HB.out.cell (World.block_lt_of_cell? w _ hw102_6)).trans hw102_6)⟩ (fun hHeld => ?_); clear hK K; refine norm_ (a' := ?_) ?_ ?_; rotate_left
        ·show Act.put _ (some 25) _ = _; simp only [Act.put, List.setIfInBounds_toArray, List.set_cons_zero, List.set_cons_succ, i64_w, i32_w]
         rfl
        refine pv_ 9 26 (bq 10 1023) HT_ ?_; refine done_ (done_of HT_.out (by kernel_rfl)) ?_; (try go_wp2)
        go_ret
        exact ⟨pbb2_18, pbb2_9⟩
      ·rw [if_neg c6] at H; exact absurd H (by simp)
     ·rw [if_neg c5] at H; exact absurd H (by simp)
    ·rw [if_neg c4] at H; have c4b0 := decide_eq_false c4; clear c4; obtain rfl := Option.some.inj H
     go_wp2
     go_ret
     exact ⟨pbb2_18, pbb2_9⟩
 ·rw [if_neg c3] at H; have c3b0 := nF_ c3; have c3b1 := nT_ c3; have c3b2 : (l0.length == l1.length) = false := by first | simpa using c3 | (simp at c3 ⊢; omega)
  obtain rfl := Option.some.inj H; go_enter Tryd.func27, Tryd.ntmps27
  go_wp2
  go_ret
  exact ⟨pbb2_18, pbb2_9⟩
def F30.f (k : Nat) (a0_0 : Int) (a0_1 : ByteArray) (a0_2 : Int) (a0_3 : Int) (a0_4 : Int) (a0_5 : ByteArray) (a0_6 : ByteArray) (a0_7 : Int) (l0_8 : List (S24)) (a1_0 : Int) (a1_1 : ByteArray) (a1_2 : Int) (a1_3 : Int) (a1_4 : Int) (a1_5 : ByteArray) (a1_6 : ByteArray) (a1_7 : Int) (l1_8 : List (S24)) : Option (Bool) := if a0_0 = a1_0 then (if a0_1.toList = a1_1.toList then (if a0_2 = a1_2 then (if a0_3 = a1_3 then (if a0_4 = a1_4 then (if a0_5.toList = a1_5.toList then (if a0_6.toList = a1_6.toList then (if a0_7 = a1_7 then ((F27.f k l0_8 l1_8).bind fun t103 => (some t103)) else (some false)) else (some false)) else (some false)) else (some false)) else (some false)) else (some false)) else (some false)) else (some false)
set_option maxHeartbeats 8000000 in
set_option maxRecDepth 100000 in
theorem F30.calls (k : Nat) (a0_0 : Int) (a0_1 : ByteArray) (a0_2 : Int) (a0_3 : Int) (a0_4 : Int) (a0_5 : ByteArray) (a0_6 : ByteArray) (a0_7 : Int) (A0_8 : Option Addr) (c0_8 : Nat) (l0_8 : List (S24)) (a1_0 : Int) (a1_1 : ByteArray) (a1_2 : Int) (a1_3 : Int) (a1_4 : Int) (a1_5 : ByteArray) (a1_6 : ByteArray) (a1_7 : Int) (A1_8 : Option Addr) (c1_8 : Nat) (l1_8 : List (S24)) (r : Bool) (w : World) (hr0_8 : Kd.C k24 w A0_8 l0_8.length l0_8) (hc0_8 : l0_8.length ≤ c0_8) (hr1_8 : Kd.C k24 w A1_8 l1_8.length l1_8) (hc1_8 : l1_8.length ≤ c1_8) (h : F30.f k a0_0 a0_1 a0_2 a0_3 a0_4 a0_5 a0_6 a0_7 l0_8 a1_0 a1_1 a1_2 a1_3 a1_4 a1_5 a1_6 a1_7 l1_8 = some r) :
    Calls Tryd.prog 30 #[.agg #[.int .i64 a0_0, .string a0_1, .int .i64 a0_2, .int .i64 a0_3, .int .i64 a0_4, .string a0_5, .string a0_6, .int .i64 a0_7, .slice A0_8 l0_8.length c0_8], .agg #[.int .i64 a1_0, .string a1_1, .int .i64 a1_2, .int .i64 a1_3, .int .i64 a1_4, .string a1_5, .string a1_6, .int .i64 a1_7, .slice A1_8 l1_8.length c1_8]] w fun e w' => e = .returned (.bool r) ∧ Below w.heap.size w w' := by
 have hu33 := Tryd.underlying33; have hu3 := Tryd.underlying3; have hu9 := Tryd.underlying9; have hu26 := Tryd.underlying26; have HR0_8 := Aside0.mk hr0_8; have HC0_8 := Aside0.mk hc0_8; clear hr0_8 hc0_8; have HR1_8 := Aside0.mk hr1_8; have HC1_8 := Aside0.mk hc1_8; clear hr1_8 hc1_8; have HB := Aside0.mk (Below.refl w.heap.size w)
 unfold F30.f at h
 have H := h; clear h
 by_cases c3 : a0_0 = a1_0
 ·rw [if_pos c3] at H; have c3b0 := bT_ c3; have c3b1 := bF_ c3; clear c3
  by_cases c4 : a0_1.toList = a1_1.toList
  ·rw [if_pos c4] at H; have c4b0 := bT_ c4; have c4b1 := bF_ c4; clear c4
   by_cases c5 : a0_2 = a1_2
   ·rw [if_pos c5] at H; have c5b0 := bT_ c5; have c5b1 := bF_ c5; clear c5
    by_cases c6 : a0_3 = a1_3
    ·rw [if_pos c6] at H; have c6b0 := bT_ c6; have c6b1 := bF_ c6; clear c6
     by_cases c7 : a0_4 = a1_4
     ·rw [if_pos c7] at H; have c7b0 := bT_ c7; have c7b1 := bF_ c7; clear c7
      by_cases c8 : a0_5.toList = a1_5.toList
      ·rw [if_pos c8] at H; have c8b0 := bT_ c8; have c8b1 := bF_ c8; clear c8
       by_cases c9 : a0_6.toList = a1_6.toList
       ·rw [if_pos c9] at H; have c9b0 := bT_ c9; have c9b1 := bF_ c9; clear c9
        by_cases c10 : a0_7 = a1_7
        ·rw [if_pos c10] at H; have c10b0 := bT_ c10; have c10b1 := bF_ c10; clear c10; obtain ⟨t103, A110, H⟩ := bnd H; have A11 := Aside0.mk A110; clear A110; obtain rfl := Option.some.inj H; go_enter Tryd.func30, Tryd.ntmps30
         go_wp2_with (first | ((with_reducible refine gate_dst (N := 2) rfl ?_); refine box_event ?hg (N := 2) ?hd (cs := #[.int .i64 a0_0, .string a0_1, .int .i64 a0_2, .int .i64 a0_3, .int .i64 a0_4, .string a0_5, .string a0_6, .int .i64 a0_7, .slice A0_8 l0_8.length c0_8]) (t := 33) ?hr ?_; (case hd => rfl); (case hg => rfl); (case hr => first | (go_simp; done) | (go_simp; rfl)); intro gb101 hg w12 hbox hb; have BK101 := Aside0.mk (hbox); have GW101 := Aside0.mk ((pbb2_8 : w.heap.size ≤ gb101)); have GE101 := Aside0.mk ((pbb2_8 : w.heap.size ≤ gb101)); replace HB := Aside0.mk (below_step pbb2_9 hb); clear hb hbox hg) | ((with_reducible refine gate_dst (N := 3) rfl ?_); refine box_event ?hg (N := 3) ?hd (cs := #[.int .i64 a1_0, .string a1_1, .int .i64 a1_2, .int .i64 a1_3, .int .i64 a1_4, .string a1_5, .string a1_6, .int .i64 a1_7, .slice A1_8 l1_8.length c1_8]) (t := 33) ?hr ?_; (case hd => rfl); (case hg => rfl); (case hr => first | (go_simp; done) | (go_simp; rfl)); intro gb102 hg w13 hbox hb; have BK102 := Aside0.mk (hbox); have GW102 := Aside0.mk ((pbb2_10 : w.heap.size ≤ gb102)); have GE102 := Aside0.mk ((pbb2_10 : w.heap.size ≤ gb102)); replace HB := Aside0.mk (below_step pbb2_11 hb); have NB101_102 := Aside0.mk ((pbb4_0 : gb101 ≠ gb102)); have NB102_101 := Aside0.mk ((pbb4_1 : gb102 ≠ gb101)); replace BK101 := Aside0.mk (blk_below (g := gb101) (o := .cells #[.int .i64 a0_0, .string a0_1, .int .i64 a0_2, .int .i64 a0_3, .int .i64 a0_4, .string a0_5, .string a0_6, .int .i64 a0_7, .slice A0_8 l0_8.length c0_8] 33 (0, 0)) pbb2_12 hb); clear hb hbox hg; have hnb14 := NB101_102.out; have hnc14 := NB102_101.out; obtain ⟨hcz15_0, hcz15_1, hcz15_2, hcz15_3, hcz15_4, hcz15_5, hcz15_6, hcz15_7, hcz15_8⟩ := cz9 BK101.out; obtain ⟨hfz15_0, hfz15_1, hfz15_2, hfz15_3, hfz15_4, hfz15_5, hfz15_6, hfz15_7, hfz15_8⟩ := fz9 BK101.out; obtain ⟨hcz16_0, hcz16_1, hcz16_2, hcz16_3, hcz16_4, hcz16_5, hcz16_6, hcz16_7, hcz16_8⟩ := cz9 BK102.out; obtain ⟨hfz16_0, hfz16_1, hfz16_2, hfz16_3, hfz16_4, hfz16_5, hfz16_6, hfz16_7, hfz16_8⟩ := fz9 BK102.out) | (go_at_call 27; (with_reducible refine (F27.calls k _ _ l0_8 _ _ l1_8 t103 _ (by repeat (first | exact (Kd.C_below HR0_8.out HB.out) | (with_reducible refine Kd.C_alloc ?_ _) | (with_reducible refine Kd.C_drewN ?_ _) | (with_reducible refine Kd.C_drew ?_))) (by exact HC0_8.out) (by repeat (first | exact (Kd.C_below HR1_8.out HB.out) | (with_reducible refine Kd.C_alloc ?_ _) | (with_reducible refine Kd.C_drewN ?_ _) | (with_reducible refine Kd.C_drew ?_))) (by exact HC1_8.out) A11.out).mono ?_); rintro e w17 ⟨rfl, hb⟩; replace BK101 := Aside0.mk (blk_below (g := gb101) (o := .cells #[.int .i64 a0_0, .string a0_1, .int .i64 a0_2, .int .i64 a0_3, .int .i64 a0_4, .string a0_5, .string a0_6, .int .i64 a0_7, .slice A0_8 l0_8.length c0_8] 33 (0, 0)) pbb2_12 hb); replace BK102 := Aside0.mk (blk_below (g := gb102) (o := .cells #[.int .i64 a1_0, .string a1_1, .int .i64 a1_2, .int .i64 a1_3, .int .i64 a1_4, .string a1_5, .string a1_6, .int .i64 a1_7, .slice A1_8 l1_8.length c1_8] 33 (0, 0)) pbb2_14 hb); replace HB := Aside0.mk (below_step pbb2_13 hb); (try clear hb); (try clear hb2); (try clear hk); (try clear hi)))
         go_ret
         exact ⟨pbb2_18, pbb2_13⟩
        ·rw [if_neg c10] at H; have c10b0 := nF_ c10; have c10b1 := nT_ c10; obtain rfl := Option.some.inj H; go_enter Tryd.func30, Tryd.ntmps30
         go_wp2_with (first | ((with_reducible refine gate_dst (N := 2) rfl ?_); refine box_event ?hg (N := 2) ?hd (cs := #[.int .i64 a0_0, .string a0_1, .int .i64 a0_2, .int .i64 a0_3, .int .i64 a0_4, .string a0_5, .string a0_6, .int .i64 a0_7, .slice A0_8 l0_8.length c0_8]) (t := 33) ?hr ?_; (case hd => rfl); (case hg => rfl); (case hr => first | (go_simp; done) | (go_simp; rfl)); intro gb101 hg w18 hbox hb; have BK101 := Aside0.mk (hbox); have GW101 := Aside0.mk ((pbb2_8 : w.heap.size ≤ gb101)); have GE101 := Aside0.mk ((pbb2_8 : w.heap.size ≤ gb101)); replace HB := Aside0.mk (below_step pbb2_9 hb); clear hb hbox hg) | ((with_reducible refine gate_dst (N := 3) rfl ?_); refine box_event ?hg (N := 3) ?hd (cs := #[.int .i64 a1_0, .string a1_1, .int .i64 a1_2, .int .i64 a1_3, .int .i64 a1_4, .string a1_5, .string a1_6, .int .i64 a1_7, .slice A1_8 l1_8.length c1_8]) (t := 33) ?hr ?_; (case hd => rfl); (case hg => rfl); (case hr => first | (go_simp; done) | (go_simp; rfl)); intro gb102 hg w19 hbox hb; have BK102 := Aside0.mk (hbox); have GW102 := Aside0.mk ((pbb2_10 : w.heap.size ≤ gb102)); have GE102 := Aside0.mk ((pbb2_10 : w.heap.size ≤ gb102)); replace HB := Aside0.mk (below_step pbb2_11 hb); have NB101_102 := Aside0.mk ((pbb4_0 : gb101 ≠ gb102)); have NB102_101 := Aside0.mk ((pbb4_1 : gb102 ≠ gb101)); replace BK101 := Aside0.mk (blk_below (g := gb101) (o := .cells #[.int .i64 a0_0, .string a0_1, .int .i64 a0_2, .int .i64 a0_3, .int .i64 a0_4, .string a0_5, .string a0_6, .int .i64 a0_7, .slice A0_8 l0_8.length c0_8] 33 (0, 0)) pbb2_12 hb); clear hb hbox hg; have hnb20 := NB101_102.out; have hnc20 := NB102_101.out; obtain ⟨hcz21_0, hcz21_1, hcz21_2, hcz21_3, hcz21_4, hcz21_5, hcz21_6, hcz21_7, hcz21_8⟩ := cz9 BK101.out; obtain ⟨hfz21_0, hfz21_1, hfz21_2, hfz21_3, hfz21_4, hfz21_5, hfz21_6, hfz21_7, hfz21_8⟩ := fz9 BK101.out; obtain ⟨hcz22_0, hcz22_1, hcz22_2, hcz22_3, hcz22_4, hcz22_5, hcz22_6, hcz22_7, hcz22_8⟩ := cz9 BK102.out; obtain ⟨hfz22_0, hfz22_1, hfz22_2, hfz22_3, hfz22_4, hfz22_5, hfz22_6, hfz22_7, hfz22_8⟩ := fz9 BK102.out))
         go_ret
         exact ⟨pbb2_18, pbb2_13⟩
       ·rw [if_neg c9] at H; have c9b0 := nF_ c9; have c9b1 := nT_ c9; obtain rfl := Option.some.inj H; go_enter Tryd.func30, Tryd.ntmps30
        go_wp2_with (first | ((with_reducible refine gate_dst (N := 2) rfl ?_); refine box_event ?hg (N := 2) ?hd (cs := #[.int .i64 a0_0, .string a0_1, .int .i64 a0_2, .int .i64 a0_3, .int .i64 a0_4, .string a0_5, .string a0_6, .int .i64 a0_7, .slice A0_8 l0_8.length c0_8]) (t := 33) ?hr ?_; (case hd => rfl); (case hg => rfl); (case hr => first | (go_simp; done) | (go_simp; rfl)); intro gb101 hg w23 hbox hb; have BK101 := Aside0.mk (hbox); have GW101 := Aside0.mk ((pbb2_8 : w.heap.size ≤ gb101)); have GE101 := Aside0.mk ((pbb2_8 : w.heap.size ≤ gb101)); replace HB := Aside0.mk (below_step pbb2_9 hb); clear hb hbox hg) | ((with_reducible refine gate_dst (N := 3) rfl ?_); refine box_event ?hg (N := 3) ?hd (cs := #[.int .i64 a1_0, .string a1_1, .int .i64 a1_2, .int .i64 a1_3, .int .i64 a1_4, .string a1_5, .string a1_6, .int .i64 a1_7, .slice A1_8 l1_8.length c1_8]) (t := 33) ?hr ?_; (case hd => rfl); (case hg => rfl); (case hr => first | (go_simp; done) | (go_simp; rfl)); intro gb102 hg w24 hbox hb; have BK102 := Aside0.mk (hbox); have GW102 := Aside0.mk ((pbb2_10 : w.heap.size ≤ gb102)); have GE102 := Aside0.mk ((pbb2_10 : w.heap.size ≤ gb102)); replace HB := Aside0.mk (below_step pbb2_11 hb); have NB101_102 := Aside0.mk ((pbb4_0 : gb101 ≠ gb102)); have NB102_101 := Aside0.mk ((pbb4_1 : gb102 ≠ gb101)); replace BK101 := Aside0.mk (blk_below (g := gb101) (o := .cells #[.int .i64 a0_0, .string a0_1, .int .i64 a0_2, .int .i64 a0_3, .int .i64 a0_4, .string a0_5, .string a0_6, .int .i64 a0_7, .slice A0_8 l0_8.length c0_8] 33 (0, 0)) pbb2_12 hb); clear hb hbox hg; have hnb25 := NB101_102.out; have hnc25 := NB102_101.out; obtain ⟨hcz26_0, hcz26_1, hcz26_2, hcz26_3, hcz26_4, hcz26_5, hcz26_6, hcz26_7, hcz26_8⟩ := cz9 BK101.out; obtain ⟨hfz26_0, hfz26_1, hfz26_2, hfz26_3, hfz26_4, hfz26_5, hfz26_6, hfz26_7, hfz26_8⟩ := fz9 BK101.out; obtain ⟨hcz27_0, hcz27_1, hcz27_2, hcz27_3, hcz27_4, hcz27_5, hcz27_6, hcz27_7, hcz27_8⟩ := cz9 BK102.out; obtain ⟨hfz27_0, hfz27_1, hfz27_2, hfz27_3, hfz27_4, hfz27_5, hfz27_6, hfz27_7, hfz27_8⟩ := fz9 BK102.out))
        go_ret
        exact ⟨pbb2_18, pbb2_13⟩
      ·rw [if_neg c8] at H; have c8b0 := nF_ c8; have c8b1 := nT_ c8; obtain rfl := Option.some.inj H; go_enter Tryd.func30, Tryd.ntmps30
       go_wp2_with (first | ((with_reducible refine gate_dst (N := 2) rfl ?_); refine box_event ?hg (N := 2) ?hd (cs := #[.int .i64 a0_0, .string a0_1, .int .i64 a0_2, .int .i64 a0_3, .int .i64 a0_4, .string a0_5, .string a0_6, .int .i64 a0_7, .slice A0_8 l0_8.length c0_8]) (t := 33) ?hr ?_; (case hd => rfl); (case hg => rfl); (case hr => first | (go_simp; done) | (go_simp; rfl)); intro gb101 hg w28 hbox hb; have BK101 := Aside0.mk (hbox); have GW101 := Aside0.mk ((pbb2_8 : w.heap.size ≤ gb101)); have GE101 := Aside0.mk ((pbb2_8 : w.heap.size ≤ gb101)); replace HB := Aside0.mk (below_step pbb2_9 hb); clear hb hbox hg) | ((with_reducible refine gate_dst (N := 3) rfl ?_); refine box_event ?hg (N := 3) ?hd (cs := #[.int .i64 a1_0, .string a1_1, .int .i64 a1_2, .int .i64 a1_3, .int .i64 a1_4, .string a1_5, .string a1_6, .int .i64 a1_7, .slice A1_8 l1_8.length c1_8]) (t := 33) ?hr ?_; (case hd => rfl); (case hg => rfl); (case hr => first | (go_simp; done) | (go_simp; rfl)); intro gb102 hg w29 hbox hb; have BK102 := Aside0.mk (hbox); have GW102 := Aside0.mk ((pbb2_10 : w.heap.size ≤ gb102)); have GE102 := Aside0.mk ((pbb2_10 : w.heap.size ≤ gb102)); replace HB := Aside0.mk (below_step pbb2_11 hb); have NB101_102 := Aside0.mk ((pbb4_0 : gb101 ≠ gb102)); have NB102_101 := Aside0.mk ((pbb4_1 : gb102 ≠ gb101)); replace BK101 := Aside0.mk (blk_below (g := gb101) (o := .cells #[.int .i64 a0_0, .string a0_1, .int .i64 a0_2, .int .i64 a0_3, .int .i64 a0_4, .string a0_5, .string a0_6, .int .i64 a0_7, .slice A0_8 l0_8.length c0_8] 33 (0, 0)) pbb2_12 hb); clear hb hbox hg; have hnb30 := NB101_102.out; have hnc30 := NB102_101.out; obtain ⟨hcz31_0, hcz31_1, hcz31_2, hcz31_3, hcz31_4, hcz31_5, hcz31_6, hcz31_7, hcz31_8⟩ := cz9 BK101.out; obtain ⟨hfz31_0, hfz31_1, hfz31_2, hfz31_3, hfz31_4, hfz31_5, hfz31_6, hfz31_7, hfz31_8⟩ := fz9 BK101.out; obtain ⟨hcz32_0, hcz32_1, hcz32_2, hcz32_3, hcz32_4, hcz32_5, hcz32_6, hcz32_7, hcz32_8⟩ := cz9 BK102.out; obtain ⟨hfz32_0, hfz32_1, hfz32_2, hfz32_3, hfz32_4, hfz32_5, hfz32_6, hfz32_7, hfz32_8⟩ := fz9 BK102.out))
       go_ret
       exact ⟨pbb2_18, pbb2_13⟩
     ·rw [if_neg c7] at H; have c7b0 := nF_ c7; have c7b1 := nT_ c7; obtain rfl := Option.some.inj H; go_enter Tryd.func30, Tryd.ntmps30
      go_wp2_with (first | ((with_reducible refine gate_dst (N := 2) rfl ?_); refine box_event ?hg (N := 2) ?hd (cs := #[.int .i64 a0_0, .string a0_1, .int .i64 a0_2, .int .i64 a0_3, .int .i64 a0_4, .string a0_5, .string a0_6, .int .i64 a0_7, .slice A0_8 l0_8.length c0_8]) (t := 33) ?hr ?_; (case hd => rfl); (case hg => rfl); (case hr => first | (go_simp; done) | (go_simp; rfl)); intro gb101 hg w33 hbox hb; have BK101 := Aside0.mk (hbox); have GW101 := Aside0.mk ((pbb2_8 : w.heap.size ≤ gb101)); have GE101 := Aside0.mk ((pbb2_8 : w.heap.size ≤ gb101)); replace HB := Aside0.mk (below_step pbb2_9 hb); clear hb hbox hg) | ((with_reducible refine gate_dst (N := 3) rfl ?_); refine box_event ?hg (N := 3) ?hd (cs := #[.int .i64 a1_0, .string a1_1, .int .i64 a1_2, .int .i64 a1_3, .int .i64 a1_4, .string a1_5, .string a1_6, .int .i64 a1_7, .slice A1_8 l1_8.length c1_8]) (t := 33) ?hr ?_; (case hd => rfl); (case hg => rfl); (case hr => first | (go_simp; done) | (go_simp; rfl)); intro gb102 hg w34 hbox hb; have BK102 := Aside0.mk (hbox); have GW102 := Aside0.mk ((pbb2_10 : w.heap.size ≤ gb102)); have GE102 := Aside0.mk ((pbb2_10 : w.heap.size ≤ gb102)); replace HB := Aside0.mk (below_step pbb2_11 hb); have NB101_102 := Aside0.mk ((pbb4_0 : gb101 ≠ gb102)); have NB102_101 := Aside0.mk ((pbb4_1 : gb102 ≠ gb101)); replace BK101 := Aside0.mk (blk_below (g := gb101) (o := .cells #[.int .i64 a0_0, .string a0_1, .int .i64 a0_2, .int .i64 a0_3, .int .i64 a0_4, .string a0_5, .string a0_6, .int .i64 a0_7, .slice A0_8 l0_8.length c0_8] 33 (0, 0)) pbb2_12 hb); clear hb hbox hg; have hnb35 := NB101_102.out; have hnc35 := NB102_101.out; obtain ⟨hcz36_0, hcz36_1, hcz36_2, hcz36_3, hcz36_4, hcz36_5, hcz36_6, hcz36_7, hcz36_8⟩ := cz9 BK101.out; obtain ⟨hfz36_0, hfz36_1, hfz36_2, hfz36_3, hfz36_4, hfz36_5, hfz36_6, hfz36_7, hfz36_8⟩ := fz9 BK101.out; obtain ⟨hcz37_0, hcz37_1, hcz37_2, hcz37_3, hcz37_4, hcz37_5, hcz37_6, hcz37_7, hcz37_8⟩ := cz9 BK102.out; obtain ⟨hfz37_0, hfz37_1, hfz37_2, hfz37_3, hfz37_4, hfz37_5, hfz37_6, hfz37_7, hfz37_8⟩ := fz9 BK102.out))
      go_ret
      exact ⟨pbb2_18, pbb2_13⟩
    ·rw [if_neg c6] at H; have c6b0 := nF_ c6; have c6b1 := nT_ c6; obtain rfl := Option.some.inj H; go_enter Tryd.func30, Tryd.ntmps30
     go_wp2_with (first | ((with_reducible refine gate_dst (N := 2) rfl ?_); refine box_event ?hg (N := 2) ?hd (cs := #[.int .i64 a0_0, .string a0_1, .int .i64 a0_2, .int .i64 a0_3, .int .i64 a0_4, .string a0_5, .string a0_6, .int .i64 a0_7, .slice A0_8 l0_8.length c0_8]) (t := 33) ?hr ?_; (case hd => rfl); (case hg => rfl); (case hr => first | (go_simp; done) | (go_simp; rfl)); intro gb101 hg w38 hbox hb; have BK101 := Aside0.mk (hbox); have GW101 := Aside0.mk ((pbb2_8 : w.heap.size ≤ gb101)); have GE101 := Aside0.mk ((pbb2_8 : w.heap.size ≤ gb101)); replace HB := Aside0.mk (below_step pbb2_9 hb); clear hb hbox hg) | ((with_reducible refine gate_dst (N := 3) rfl ?_); refine box_event ?hg (N := 3) ?hd (cs := #[.int .i64 a1_0, .string a1_1, .int .i64 a1_2, .int .i64 a1_3, .int .i64 a1_4, .string a1_5, .string a1_6, .int .i64 a1_7, .slice A1_8 l1_8.length c1_8]) (t := 33) ?hr ?_; (case hd => rfl); (case hg => rfl); (case hr => first | (go_simp; done) | (go_simp; rfl)); intro gb102 hg w39 hbox hb; have BK102 := Aside0.mk (hbox); have GW102 := Aside0.mk ((pbb2_10 : w.heap.size ≤ gb102)); have GE102 := Aside0.mk ((pbb2_10 : w.heap.size ≤ gb102)); replace HB := Aside0.mk (below_step pbb2_11 hb); have NB101_102 := Aside0.mk ((pbb4_0 : gb101 ≠ gb102)); have NB102_101 := Aside0.mk ((pbb4_1 : gb102 ≠ gb101)); replace BK101 := Aside0.mk (blk_below (g := gb101) (o := .cells #[.int .i64 a0_0, .string a0_1, .int .i64 a0_2, .int .i64 a0_3, .int .i64 a0_4, .string a0_5, .string a0_6, .int .i64 a0_7, .slice A0_8 l0_8.length c0_8] 33 (0, 0)) pbb2_12 hb); clear hb hbox hg; have hnb40 := NB101_102.out; have hnc40 := NB102_101.out; obtain ⟨hcz41_0, hcz41_1, hcz41_2, hcz41_3, hcz41_4, hcz41_5, hcz41_6, hcz41_7, hcz41_8⟩ := cz9 BK101.out; obtain ⟨hfz41_0, hfz41_1, hfz41_2, hfz41_3, hfz41_4, hfz41_5, hfz41_6, hfz41_7, hfz41_8⟩ := fz9 BK101.out; obtain ⟨hcz42_0, hcz42_1, hcz42_2, hcz42_3, hcz42_4, hcz42_5, hcz42_6, hcz42_7, hcz42_8⟩ := cz9 BK102.out; obtain ⟨hfz42_0, hfz42_1, hfz42_2, hfz42_3, hfz42_4, hfz42_5, hfz42_6, hfz42_7, hfz42_8⟩ := fz9 BK102.out))
     go_ret
     exact ⟨pbb2_18, pbb2_13⟩
   ·rw [if_neg c5] at H; have c5b0 := nF_ c5; have c5b1 := nT_ c5; obtain rfl := Option.some.inj H; go_enter Tryd.func30, Tryd.ntmps30
    go_wp2_with (first | ((with_reducible refine gate_dst (N := 2) rfl ?_); refine box_event ?hg (N := 2) ?hd (cs := #[.int .i64 a0_0, .string a0_1, .int .i64 a0_2, .int .i64 a0_3, .int .i64 a0_4, .string a0_5, .string a0_6, .int .i64 a0_7, .slice A0_8 l0_8.length c0_8]) (t := 33) ?hr ?_; (case hd => rfl); (case hg => rfl); (case hr => first | (go_simp; done) | (go_simp; rfl)); intro gb101 hg w43 hbox hb; have BK101 := Aside0.mk (hbox); have GW101 := Aside0.mk ((pbb2_8 : w.heap.size ≤ gb101)); have GE101 := Aside0.mk ((pbb2_8 : w.heap.size ≤ gb101)); replace HB := Aside0.mk (below_step pbb2_9 hb); clear hb hbox hg) | ((with_reducible refine gate_dst (N := 3) rfl ?_); refine box_event ?hg (N := 3) ?hd (cs := #[.int .i64 a1_0, .string a1_1, .int .i64 a1_2, .int .i64 a1_3, .int .i64 a1_4, .string a1_5, .string a1_6, .int .i64 a1_7, .slice A1_8 l1_8.length c1_8]) (t := 33) ?hr ?_; (case hd => rfl); (case hg => rfl); (case hr => first | (go_simp; done) | (go_simp; rfl)); intro gb102 hg w44 hbox hb; have BK102 := Aside0.mk (hbox); have GW102 := Aside0.mk ((pbb2_10 : w.heap.size ≤ gb102)); have GE102 := Aside0.mk ((pbb2_10 : w.heap.size ≤ gb102)); replace HB := Aside0.mk (below_step pbb2_11 hb); have NB101_102 := Aside0.mk ((pbb4_0 : gb101 ≠ gb102)); have NB102_101 := Aside0.mk ((pbb4_1 : gb102 ≠ gb101)); replace BK101 := Aside0.mk (blk_below (g := gb101) (o := .cells #[.int .i64 a0_0, .string a0_1, .int .i64 a0_2, .int .i64 a0_3, .int .i64 a0_4, .string a0_5, .string a0_6, .int .i64 a0_7, .slice A0_8 l0_8.length c0_8] 33 (0, 0)) pbb2_12 hb); clear hb hbox hg; have hnb45 := NB101_102.out; have hnc45 := NB102_101.out; obtain ⟨hcz46_0, hcz46_1, hcz46_2, hcz46_3, hcz46_4, hcz46_5, hcz46_6, hcz46_7, hcz46_8⟩ := cz9 BK101.out; obtain ⟨hfz46_0, hfz46_1, hfz46_2, hfz46_3, hfz46_4, hfz46_5, hfz46_6, hfz46_7, hfz46_8⟩ := fz9 BK101.out; obtain ⟨hcz47_0, hcz47_1, hcz47_2, hcz47_3, hcz47_4, hcz47_5, hcz47_6, hcz47_7, hcz47_8⟩ := cz9 BK102.out; obtain ⟨hfz47_0, hfz47_1, hfz47_2, hfz47_3, hfz47_4, hfz47_5, hfz47_6, hfz47_7, hfz47_8⟩ := fz9 BK102.out))
    go_ret
    exact ⟨pbb2_18, pbb2_13⟩
  ·rw [if_neg c4] at H; have c4b0 := nF_ c4; have c4b1 := nT_ c4; obtain rfl := Option.some.inj H; go_enter Tryd.func30, Tryd.ntmps30
   go_wp2_with (first | ((with_reducible refine gate_dst (N := 2) rfl ?_); refine box_event ?hg (N := 2) ?hd (cs := #[.int .i64 a0_0, .string a0_1, .int .i64 a0_2, .int .i64 a0_3, .int .i64 a0_4, .string a0_5, .string a0_6, .int .i64 a0_7, .slice A0_8 l0_8.length c0_8]) (t := 33) ?hr ?_; (case hd => rfl); (case hg => rfl); (case hr => first | (go_simp; done) | (go_simp; rfl)); intro gb101 hg w48 hbox hb; have BK101 := Aside0.mk (hbox); have GW101 := Aside0.mk ((pbb2_8 : w.heap.size ≤ gb101)); have GE101 := Aside0.mk ((pbb2_8 : w.heap.size ≤ gb101)); replace HB := Aside0.mk (below_step pbb2_9 hb); clear hb hbox hg) | ((with_reducible refine gate_dst (N := 3) rfl ?_); refine box_event ?hg (N := 3) ?hd (cs := #[.int .i64 a1_0, .string a1_1, .int .i64 a1_2, .int .i64 a1_3, .int .i64 a1_4, .string a1_5, .string a1_6, .int .i64 a1_7, .slice A1_8 l1_8.length c1_8]) (t := 33) ?hr ?_; (case hd => rfl); (case hg => rfl); (case hr => first | (go_simp; done) | (go_simp; rfl)); intro gb102 hg w49 hbox hb; have BK102 := Aside0.mk (hbox); have GW102 := Aside0.mk ((pbb2_10 : w.heap.size ≤ gb102)); have GE102 := Aside0.mk ((pbb2_10 : w.heap.size ≤ gb102)); replace HB := Aside0.mk (below_step pbb2_11 hb); have NB101_102 := Aside0.mk ((pbb4_0 : gb101 ≠ gb102)); have NB102_101 := Aside0.mk ((pbb4_1 : gb102 ≠ gb101)); replace BK101 := Aside0.mk (blk_below (g := gb101) (o := .cells #[.int .i64 a0_0, .string a0_1, .int .i64 a0_2, .int .i64 a0_3, .int .i64 a0_4, .string a0_5, .string a0_6, .int .i64 a0_7, .slice A0_8 l0_8.length c0_8] 33 (0, 0)) pbb2_12 hb); clear hb hbox hg; have hnb50 := NB101_102.out; have hnc50 := NB102_101.out; obtain ⟨hcz51_0, hcz51_1, hcz51_2, hcz51_3, hcz51_4, hcz51_5, hcz51_6, hcz51_7, hcz51_8⟩ := cz9 BK101.out; obtain ⟨hfz51_0, hfz51_1, hfz51_2, hfz51_3, hfz51_4, hfz51_5, hfz51_6, hfz51_7, hfz51_8⟩ := fz9 BK101.out; obtain ⟨hcz52_0, hcz52_1, hcz52_2, hcz52_3, hcz52_4, hcz52_5, hcz52_6, hcz52_7, hcz52_8⟩ := cz9 BK102.out; obtain ⟨hfz52_0, hfz52_1, hfz52_2, hfz52_3, hfz52_4, hfz52_5, hfz52_6, hfz52_7, hfz52_8⟩ := fz9 BK102.out))
   go_ret
   exact ⟨pbb2_18, pbb2_13⟩
 ·rw [if_neg c3] at H; have c3b0 := nF_ c3; have c3b1 := nT_ c3; obtain rfl := Option.some.inj H; go_enter Tryd.func30, Tryd.ntmps30
  go_wp2_with (first | ((with_reducible refine gate_dst (N := 2) rfl ?_); refine box_event ?hg (N := 2) ?hd (cs := #[.int .i64 a0_0, .string a0_1, .int .i64 a0_2, .int .i64 a0_3, .int .i64 a0_4, .string a0_5, .string a0_6, .int .i64 a0_7, .slice A0_8 l0_8.length c0_8]) (t := 33) ?hr ?_; (case hd => rfl); (case hg => rfl); (case hr => first | (go_simp; done) | (go_simp; rfl)); intro gb101 hg w53 hbox hb; have BK101 := Aside0.mk (hbox); have GW101 := Aside0.mk ((pbb2_8 : w.heap.size ≤ gb101)); have GE101 := Aside0.mk ((pbb2_8 : w.heap.size ≤ gb101)); replace HB := Aside0.mk (below_step pbb2_9 hb); clear hb hbox hg) | ((with_reducible refine gate_dst (N := 3) rfl ?_); refine box_event ?hg (N := 3) ?hd (cs := #[.int .i64 a1_0, .string a1_1, .int .i64 a1_2, .int .i64 a1_3, .int .i64 a1_4, .string a1_5, .string a1_6, .int .i64 a1_7, .slice A1_8 l1_8.length c1_8]) (t := 33) ?hr ?_; (case hd => rfl); (case hg => rfl); (case hr => first | (go_simp; done) | (go_simp; rfl)); intro gb102 hg w54 hbox hb; have BK102 := Aside0.mk (hbox); have GW102 := Aside0.mk ((pbb2_10 : w.heap.size ≤ gb102)); have GE102 := Aside0.mk ((pbb2_10 : w.heap.size ≤ gb102)); replace HB := Aside0.mk (below_step pbb2_11 hb); have NB101_102 := Aside0.mk ((pbb4_0 : gb101 ≠ gb102)); have NB102_101 := Aside0.mk ((pbb4_1 : gb102 ≠ gb101)); replace BK101 := Aside0.mk (blk_below (g := gb101) (o := .cells #[.int .i64 a0_0, .string a0_1, .int .i64 a0_2, .int .i64 a0_3, .int .i64 a0_4, .string a0_5, .string a0_6, .int .i64 a0_7, .slice A0_8 l0_8.length c0_8] 33 (0, 0)) pbb2_12 hb); clear hb hbox hg; have hnb55 := NB101_102.out; have hnc55 := NB102_101.out; obtain ⟨hcz56_0, hcz56_1, hcz56_2, hcz56_3, hcz56_4, hcz56_5, hcz56_6, hcz56_7, hcz56_8⟩ := cz9 BK101.out; obtain ⟨hfz56_0, hfz56_1, hfz56_2, hfz56_3, hfz56_4, hfz56_5, hfz56_6, hfz56_7, hfz56_8⟩ := fz9 BK101.out; obtain ⟨hcz57_0, hcz57_1, hcz57_2, hcz57_3, hcz57_4, hcz57_5, hcz57_6, hcz57_7, hcz57_8⟩ := cz9 BK102.out; obtain ⟨hfz57_0, hfz57_1, hfz57_2, hfz57_3, hfz57_4, hfz57_5, hfz57_6, hfz57_7, hfz57_8⟩ := fz9 BK102.out))
  go_ret
  exact ⟨pbb2_18, pbb2_13⟩
end Go.Proofs.YtjeecehhcajfaaaDoor.M
end
section
namespace Go.Proofs.YtjeecehhcajfaaaDoor.M
open Go.RowKit Go.Proofs.YtjeecehhcajfaaaDoorW.PrintWords Go.Proofs.YtjeecehhcajfaaaDoorW.PrintLast
set_option linter.unusedVariables false
set_option linter.unusedSimpArgs false
abbrev Tg := S101
abbrev Li := S24
theorem w64s {n : Nat} (h : n ≤ 1000000000) : wrap64 ((n : Int) + 1) = ((n + 1 : Nat) : Int) := by unfold wrap64; omega
def okL (x : Li) : Prop := x.f0.size ≤ 1000000000000000 ∧ x.f1.size ≤ 1000000000000000 ∧ x.f4.size ≤ 1000000000000000 ∧ x.f5.size ≤ 1000000000000000 ∧ okTags x.f6
def lightv (l : List Li) : Nat → Nat → Bool
 | 0, _ => true
 | n + 1, i => !decide (((rd_T24 l (i : Int)).f6.length : Int) > 10) && lightv l n (i + 1)
theorem F12.go (l : List Li) (hl : l.length ≤ 150) : ∀ (n i : Nat), i + n = l.length → Ev (fun k => F12.l0 k l (i : Int)) (lightv l n i)
 | 0, i, h => by
  refine Ev.succ ?_; simp only [F12.l0, if_neg (show ¬ (i : Int) < (l.length : Int) by omega), lightv]; exact Ev.const _
 | n + 1, i, h => by
  have ih := F12.go l hl n (i + 1) (by omega); refine Ev.succ ?_; simp only [F12.l0, if_pos (show (i : Int) < (l.length : Int) by omega), if_pos (show (0 : Int) ≤ (i : Int) by omega), lightv]
  by_cases c : ((rd_T24 l (i : Int)).f6.length : Int) > 10
  ·simp only [if_pos c, decide_eq_true c, Bool.not_true, Bool.false_and]; exact Ev.const _
  ·rw [w64s (by omega)]; simp only [if_neg c, decide_eq_false c, Bool.not_false, Bool.true_and]; exact ih
theorem lightv_mem (l : List Li) : ∀ (n i : Nat), i + n = l.length → lightv l n i = true → ∀ j, i ≤ j → (h : j < l.length) → l[j].f6.length ≤ 10
 | 0, i, h, _, j, h1, h2 => by omega
 | n + 1, i, h, hv, j, h1, h2 => by
  simp only [lightv, Bool.and_eq_true, Bool.not_eq_true', decide_eq_false_iff_not] at hv
  rcases Nat.lt_or_ge i j with h3 | h3
  ·exact lightv_mem l n (i + 1) (by omega) hv.2 j h3 h2
  ·have : i = j := by omega
   subst this; have h4 : rd_T24 l (i : Int) = l[i] := by simp [rd_T24, h2]
   rw [h4] at hv
   omega
theorem F12.ok (l : List Li) : ∃ b, Ev (fun k => F12.f k l) b ∧ (b = true → l.length ≤ 150 ∧ ∀ x ∈ l, x.f6.length ≤ 10) := by
 unfold F12.f
 by_cases c : (l.length : Int) > 150
 ·exact ⟨false, by simp only [if_pos c]; exact Ev.const _, by intro h; cases h⟩
 ·refine ⟨lightv l l.length 0, by simp only [if_neg c]; exact F12.go l (by omega) l.length 0 (by omega), fun h => ⟨by omega, fun x hx => ?_⟩⟩; obtain ⟨j, hj, rfl⟩ := List.getElem_of_mem hx; exact lightv_mem l l.length 0 (by omega) h j (by omega) hj
theorem G24_ok {x : Li} (h : G24 x) (hl : x.f6.length ≤ 10) : okL x := by
 obtain ⟨h0, h1, _, _, h4, h5, _, h6⟩ := h; refine ⟨by omega, by omega, by omega, by omega, by omega, fun t ht => ?_⟩; obtain ⟨t0, t1⟩ := h6 t ht; exact ⟨by omega, by omega⟩
def tagB (a b : Tg) : Bool := a.f0.toList == b.f0.toList && (a.f1.toList == b.f1.toList)
def tgo (a b : List Tg) : Nat → Nat → Bool
 | 0, _ => true
 | n + 1, i => tagB (rd_T101 a (i : Int)) (rd_T101 b (i : Int)) && tgo a b n (i + 1)
def sameT (a b : List Tg) : Bool := decide (a.length = b.length) && tgo a b a.length 0
theorem byt_inj {a b : ByteArray} : a.toList = b.toList ↔ a = b := by
 rw [ByteArray.toList_eq, ByteArray.toList_eq]
 constructor
 ·intro h; exact ByteArray.ext (Array.toList_inj.1 h)
 ·rintro rfl; rfl
theorem tagB_eq {a b : Tg} : tagB a b = true ↔ a = b := by
 unfold tagB
 rw [Bool.and_eq_true, beq_iff_eq, beq_iff_eq, byt_inj, byt_inj]
 constructor
 ·rintro ⟨h1, h2⟩
  cases a; cases b; simp_all
 ·rintro rfl; exact ⟨rfl, rfl⟩
theorem tgo_eq (a b : List Tg) (hl : a.length = b.length) : ∀ n i, i + n = a.length → (tgo a b n i = true ↔ a.drop i = b.drop i)
 | 0, i, h => by
  simp only [tgo, true_iff]; rw [List.drop_eq_nil_of_le (by omega), List.drop_eq_nil_of_le (by omega)]
 | n + 1, i, h => by
  have hi : i < a.length := by omega
  have hi2 : i < b.length := by omega
  have e1 : rd_T101 a (i : Int) = a[i] := by simp [rd_T101, hi]
  have e2 : rd_T101 b (i : Int) = b[i] := by simp [rd_T101, hi2]
  simp only [tgo, Bool.and_eq_true, tagB_eq, tgo_eq a b hl n (i + 1) (by omega), e1, e2]; rw [List.drop_eq_getElem_cons hi, List.drop_eq_getElem_cons hi2, List.cons_eq_cons]
theorem sameT_eq {a b : List Tg} : sameT a b = true ↔ a = b := by
 unfold sameT
 rw [Bool.and_eq_true, decide_eq_true_eq]
 constructor
 ·rintro ⟨h1, h2⟩; have := (tgo_eq a b h1 a.length 0 (by omega)).1 h2
  simpa using this
 ·rintro rfl; exact ⟨rfl, (tgo_eq a a rfl a.length 0 (by omega)).2 rfl⟩
theorem sameTag.go (a b : List Tg) (hl : a.length = b.length) (hs : a.length ≤ 1000000) : ∀ n i, i + n = a.length → Ev (fun k => F78.l0 k a b (a.length : Int) (i : Int)) (tgo a b n i)
 | 0, i, h => by
  refine Ev.succ ?_; simp only [F78.l0, if_neg (show ¬ (i : Int) < (a.length : Int) by omega), tgo]; exact Ev.const _
 | n + 1, i, h => by
  have ih := sameTag.go a b hl hs n (i + 1) (by omega); refine Ev.succ ?_; simp only [F78.l0, if_pos (show (i : Int) < (a.length : Int) by omega), if_pos (show (0 : Int) ≤ (i : Int) by omega), if_pos (show (i : Int) < (b.length : Int) by omega), F79.f, Option.bind_some, tgo, w64s (show i ≤ 1000000000 by omega)]; show Ev (fun k => if tagB (rd_T101 a (i : Int)) (rd_T101 b (i : Int)) = true then _ else _) _
  cases tagB (rd_T101 a (i : Int)) (rd_T101 b (i : Int)) with
  | true => simp only [if_true, Bool.true_and]; exact ih
  | false => simp only [Bool.false_eq_true, if_false, Bool.false_and]; exact Ev.const _
theorem sameTag.eq (a b : List Tg) (hs : a.length ≤ 1000000) : Ev (fun k => F78.f k a b) (sameT a b) := by
 unfold F78.f sameT
 by_cases c : a.length = b.length
 ·simp only [if_pos (show (a.length : Int) = (b.length : Int) by omega), decide_eq_true c, Bool.true_and]; exact sameTag.go a b c hs a.length 0 (by omega)
 ·simp only [if_neg (show ¬ (a.length : Int) = (b.length : Int) by omega), decide_eq_false c, Bool.false_and]; exact Ev.const _
theorem ref09Same.go (a b : List Tg) (hl : a.length = b.length) (hs : a.length ≤ 1000000) : ∀ n i, i + n = a.length → Ev (fun k => F76.l0 k a b (i : Int)) (tgo a b n i)
 | 0, i, h => by
  refine Ev.succ ?_; simp only [F76.l0, if_neg (show ¬ (i : Int) < (a.length : Int) by omega), tgo]; exact Ev.const _
 | n + 1, i, h => by
  have ih := ref09Same.go a b hl hs n (i + 1) (by omega); refine Ev.succ ?_; simp only [F76.l0, if_pos (show (i : Int) < (a.length : Int) by omega), if_pos (show (0 : Int) ≤ (i : Int) by omega), if_pos (show (i : Int) < (b.length : Int) by omega), tgo, w64s (show i ≤ 1000000000 by omega)]
  have e : (!((rd_T101 a (i : Int)).f0.toList == (rd_T101 b (i : Int)).f0.toList) || !((rd_T101 a (i : Int)).f1.toList == (rd_T101 b (i : Int)).f1.toList)) = !(tagB (rd_T101 a (i : Int)) (rd_T101 b (i : Int))) := by
   unfold tagB; rw [Bool.not_and]
  simp only [e]
  cases tagB (rd_T101 a (i : Int)) (rd_T101 b (i : Int)) with
  | true => simp only [Bool.not_true, Bool.false_eq_true, if_false, Bool.true_and]; exact ih
  | false => simp only [Bool.not_false, if_true, Bool.false_and]; exact Ev.const _
theorem ref09Same.eq (a b : List Tg) (hs : a.length ≤ 1000000) : Ev (fun k => F76.f k a b) (sameT a b) := by
 unfold F76.f sameT
 by_cases c : a.length = b.length
 ·simp only [if_pos (show (a.length : Int) = (b.length : Int) by omega), decide_eq_true c, Bool.true_and]; exact ref09Same.go a b c hs a.length 0 (by omega)
 ·simp only [if_neg (show ¬ (a.length : Int) = (b.length : Int) by omega), decide_eq_false c, Bool.false_and]; exact Ev.const _
def alikev (x y : Li) : Bool := decide (x.f0 = y.f0) && (decide (x.f1 = y.f1) && (decide (x.f4 = y.f4) && (decide (x.f5 = y.f5) && sameT x.f6 y.f6)))
theorem alike.eq (x y : Li) (hx : okL x) : Ev (fun k => F55.f k x.f0 x.f1 x.f2 x.f3 x.f4 x.f5 x.f6 y.f0 y.f1 y.f2 y.f3 y.f4 y.f5 y.f6) (alikev x y) := by
 unfold F55.f alikev
 simp only [byt_inj]
 by_cases c0 : x.f0 = y.f0
 ·simp only [if_pos c0, decide_eq_true c0, Bool.true_and]
  by_cases c1 : x.f1 = y.f1
  ·simp only [if_pos c1, decide_eq_true c1, Bool.true_and]
   by_cases c4 : x.f4 = y.f4
   ·simp only [if_pos c4, decide_eq_true c4, Bool.true_and]
    by_cases c5 : x.f5 = y.f5
    ·simp only [if_pos c5, decide_eq_true c5, Bool.true_and]; exact Ev.bind (ref09Same.eq x.f6 y.f6 (by have := hx.2.2.2.2.1; omega)) (Ev.const _)
    ·simp only [if_neg c5, decide_eq_false c5, Bool.false_and]; exact Ev.const _
   ·simp only [if_neg c4, decide_eq_false c4, Bool.false_and]; exact Ev.const _
  ·simp only [if_neg c1, decide_eq_false c1, Bool.false_and]; exact Ev.const _
 ·simp only [if_neg c0, decide_eq_false c0, Bool.false_and]; exact Ev.const _
theorem alikev_eq {x y : Li} : alikev x y = true ↔ (x.f0 = y.f0 ∧ x.f1 = y.f1 ∧ x.f4 = y.f4 ∧ x.f5 = y.f5 ∧ x.f6 = y.f6) := by
 unfold alikev
 simp only [Bool.and_eq_true, decide_eq_true_eq, sameT_eq]
def sameLv (x y : Li) : Bool := alikev x y && (decide (x.f2 = y.f2) && decide (x.f3 = y.f3))
theorem sameLv_eq {x y : Li} : sameLv x y = true ↔ x = y := by
 unfold sameLv
 rw [Bool.and_eq_true, alikev_eq, Bool.and_eq_true, decide_eq_true_eq, decide_eq_true_eq]
 constructor
 ·rintro ⟨⟨h0, h1, h4, h5, h6⟩, h2, h3⟩
  cases x; cases y; simp_all
 ·rintro rfl; exact ⟨⟨rfl, rfl, rfl, rfl, rfl⟩, rfl, rfl⟩
theorem refSameLine.eq (x y : Li) (hx : okL x) : Ev (fun k => F56.f k x.f0 x.f1 x.f2 x.f3 x.f4 x.f5 x.f6 y.f0 y.f1 y.f2 y.f3 y.f4 y.f5 y.f6) (sameLv x y) := by
 unfold F56.f sameLv
 refine Ev.bind (alike.eq x y hx) ?_
 cases alikev x y with
 | false => simp only [Bool.false_eq_true, if_false, Bool.false_and]; exact Ev.const _
 | true =>
  simp only [if_true, Bool.true_and]
  by_cases c2 : x.f2 = y.f2
  ·simp only [if_pos c2, decide_eq_true c2, Bool.true_and]; have e : (x.f3 == y.f3) = decide (x.f3 = y.f3) := by rw [Bool.eq_iff_iff]; simp
   rw [e]; exact Ev.const _
  ·simp only [if_neg c2, decide_eq_false c2, Bool.false_and]; exact Ev.const _
theorem keyOf.ev (x : Li) (hx : okTags x.f6) : Ev (fun k => F54.f k x.f0 x.f1 x.f2 x.f3 x.f4 x.f5 x.f6) (keyL x) :=
 Ev.mono ⟨_, keyOf_total x hx⟩ (fun k => F54.mono _ _ _ _ _ _ _ k)
theorem sameLine.eq (x y : Li) (hx : okL x) (hy : okL y) : Ev (fun k => F61.f k x.f0 x.f1 x.f2 x.f3 x.f4 x.f5 x.f6 y.f0 y.f1 y.f2 y.f3 y.f4 y.f5 y.f6) (sameLv x y) := by
 unfold F61.f
 refine Ev.bind (keyOf.ev x hx.2.2.2.2) (Ev.bind (keyOf.ev y hy.2.2.2.2) ?_); have hT := sameTag.eq x.f6 y.f6 (by have := hx.2.2.2.2.1; omega)
 by_cases ct : x.f6 = y.f6
 ·have e : ((keyL x).1.toList == (keyL y).1.toList && ((keyL x).2.1.toList == (keyL y).2.1.toList && ((keyL x).2.2.1.toList == (keyL y).2.2.1.toList && ((keyL x).2.2.2.1.toList == (keyL y).2.2.2.1.toList && ((keyL x).2.2.2.2.toList == (keyL y).2.2.2.2.toList))))) = alikev x y := by
   rw [Bool.eq_iff_iff, alikev_eq]; simp only [keyL, Bool.and_eq_true, beq_iff_eq, byt_inj, ct, and_true]
  have ht : sameT x.f6 y.f6 = true := sameT_eq.2 ct; rw [ht] at hT
  unfold sameLv
  by_cases cB : alikev x y = true
  ·simp only [if_pos (e.trans cB)]; rw [cB, Bool.true_and]
   by_cases c2 : x.f2 = y.f2
   ·simp only [if_pos c2, decide_eq_true c2, Bool.true_and]
    by_cases c3 : x.f3 = y.f3
    ·simp only [if_pos c3, decide_eq_true c3]; exact Ev.bind hT (Ev.const _)
    ·simp only [if_neg c3, decide_eq_false c3]; exact Ev.const _
   ·simp only [if_neg c2, decide_eq_false c2, Bool.false_and]; exact Ev.const _
  ·have cF : alikev x y = false := by simpa using cB
   simp only [if_neg (show ¬ _ = true from fun h => cB (e.symm.trans h))]; rw [cF, Bool.false_and]; exact Ev.const _
 ·have hs : sameLv x y = false := by
   cases h : sameLv x y with
   | false => rfl
   | true => exact absurd (by rw [sameLv_eq.1 h]) ct
  have ht : sameT x.f6 y.f6 = false := by
   cases h : sameT x.f6 y.f6 with
   | false => rfl
   | true => exact absurd (sameT_eq.1 h) ct
  rw [hs]; rw [ht] at hT
  by_cases cB : ((keyL x).1.toList == (keyL y).1.toList && ((keyL x).2.1.toList == (keyL y).2.1.toList && ((keyL x).2.2.1.toList == (keyL y).2.2.1.toList && ((keyL x).2.2.2.1.toList == (keyL y).2.2.2.1.toList && ((keyL x).2.2.2.2.toList == (keyL y).2.2.2.2.toList))))) = true
  ·simp only [if_pos cB]
   by_cases c2 : x.f2 = y.f2
   ·simp only [if_pos c2]
    by_cases c3 : x.f3 = y.f3
    ·simp only [if_pos c3]; exact Ev.bind hT (Ev.const _)
    ·simp only [if_neg c3]; exact Ev.const _
   ·simp only [if_neg c2]; exact Ev.const _
  ·simp only [if_neg cB]; exact Ev.const _
def lgo (a b : List Li) : Nat → Nat → Bool
 | 0, _ => true
 | n + 1, i => sameLv (rd_T24 a (i : Int)) (rd_T24 b (i : Int)) && lgo a b n (i + 1)
def sameLsv (a b : List Li) : Bool := decide (a.length = b.length) && lgo a b a.length 0
theorem lgo_eq (a b : List Li) (hl : a.length = b.length) : ∀ n i, i + n = a.length → (lgo a b n i = true ↔ a.drop i = b.drop i)
 | 0, i, h => by
  simp only [lgo, true_iff]; rw [List.drop_eq_nil_of_le (by omega), List.drop_eq_nil_of_le (by omega)]
 | n + 1, i, h => by
  have hi : i < a.length := by omega
  have hi2 : i < b.length := by omega
  have e1 : rd_T24 a (i : Int) = a[i] := by simp [rd_T24, hi]
  have e2 : rd_T24 b (i : Int) = b[i] := by simp [rd_T24, hi2]
  simp only [lgo, Bool.and_eq_true, sameLv_eq, lgo_eq a b hl n (i + 1) (by omega), e1, e2]; rw [List.drop_eq_getElem_cons hi, List.drop_eq_getElem_cons hi2, List.cons_eq_cons]
theorem sameLsv_eq {a b : List Li} : sameLsv a b = true ↔ a = b := by
 unfold sameLsv
 rw [Bool.and_eq_true, decide_eq_true_eq]
 constructor
 ·rintro ⟨h1, h2⟩; have := (lgo_eq a b h1 a.length 0 (by omega)).1 h2
  simpa using this
 ·rintro rfl; exact ⟨rfl, (lgo_eq a a rfl a.length 0 (by omega)).2 rfl⟩
theorem rd24_mem {a : List Li} {i : Nat} (h : i < a.length) : rd_T24 a (i : Int) ∈ a := by
 have e1 : rd_T24 a (i : Int) = a[i] := by simp [rd_T24, h]
 rw [e1]; exact List.getElem_mem h
theorem sameLines.go (a b : List Li) (hl : a.length = b.length) (hs : a.length ≤ 1000000) (ha : ∀ x ∈ a, okL x) (hb : ∀ x ∈ b, okL x) : ∀ n i, i + n = a.length → Ev (fun k => F60.l0 k a b (a.length : Int) (i : Int)) (lgo a b n i)
 | 0, i, h => by
  refine Ev.succ ?_; simp only [F60.l0, if_neg (show ¬ (i : Int) < (a.length : Int) by omega), lgo]; exact Ev.const _
 | n + 1, i, h => by
  have ih := sameLines.go a b hl hs ha hb n (i + 1) (by omega); refine Ev.succ ?_; simp only [F60.l0, if_pos (show (i : Int) < (a.length : Int) by omega), if_pos (show (0 : Int) ≤ (i : Int) by omega), if_pos (show (i : Int) < (b.length : Int) by omega), lgo, w64s (show i ≤ 1000000000 by omega)]; refine Ev.bind (sameLine.eq _ _ (ha _ (rd24_mem (by omega))) (hb _ (rd24_mem (by omega)))) ?_
  cases sameLv (rd_T24 a (i : Int)) (rd_T24 b (i : Int)) with
  | true => simp only [if_true, Bool.true_and]; exact ih
  | false => simp only [Bool.false_eq_true, if_false, Bool.false_and]; exact Ev.const _
theorem sameLines.eq (a b : List Li) (hs : a.length ≤ 1000000) (ha : ∀ x ∈ a, okL x) (hb : ∀ x ∈ b, okL x) : Ev (fun k => F60.f k a b) (sameLsv a b) := by
 unfold F60.f sameLsv
 by_cases c : a.length = b.length
 ·simp only [if_pos (show (a.length : Int) = (b.length : Int) by omega), decide_eq_true c, Bool.true_and]; exact sameLines.go a b c hs ha hb a.length 0 (by omega)
 ·simp only [if_neg (show ¬ (a.length : Int) = (b.length : Int) by omega), decide_eq_false c, Bool.false_and]; exact Ev.const _
theorem refSameLines.go (a b : List Li) (hl : a.length = b.length) (hs : a.length ≤ 1000000) (ha : ∀ x ∈ a, okL x) : ∀ n i, i + n = a.length → Ev (fun k => F27.l0 k a b (i : Int)) (lgo a b n i)
 | 0, i, h => by
  refine Ev.succ ?_; simp only [F27.l0, if_neg (show ¬ (i : Int) < (a.length : Int) by omega), lgo]; exact Ev.const _
 | n + 1, i, h => by
  have ih := refSameLines.go a b hl hs ha n (i + 1) (by omega); refine Ev.succ ?_; simp only [F27.l0, if_pos (show (i : Int) < (a.length : Int) by omega), if_pos (show (0 : Int) ≤ (i : Int) by omega), if_pos (show (i : Int) < (b.length : Int) by omega), lgo, w64s (show i ≤ 1000000000 by omega)]; refine Ev.bind (refSameLine.eq _ _ (ha _ (rd24_mem (by omega)))) ?_
  cases sameLv (rd_T24 a (i : Int)) (rd_T24 b (i : Int)) with
  | true => simp only [if_true, Bool.true_and]; exact ih
  | false => simp only [Bool.false_eq_true, if_false, Bool.false_and]; exact Ev.const _
theorem refSameLines.eq (a b : List Li) (hs : a.length ≤ 1000000) (ha : ∀ x ∈ a, okL x) : Ev (fun k => F27.f k a b) (sameLsv a b) := by
 unfold F27.f sameLsv
 by_cases c : a.length = b.length
 ·simp only [if_pos (show (a.length : Int) = (b.length : Int) by omega), decide_eq_true c, Bool.true_and]; exact refSameLines.go a b c hs ha a.length 0 (by omega)
 ·simp only [if_neg (show ¬ (a.length : Int) = (b.length : Int) by omega), decide_eq_false c, Bool.false_and]; exact Ev.const _
abbrev En := S33
def topv (x y : En) : Bool := decide (x.f0 = y.f0) && (decide (x.f1 = y.f1) && (decide (x.f2 = y.f2) && (decide (x.f3 = y.f3) && (decide (x.f4 = y.f4) && (decide (x.f5 = y.f5) && (decide (x.f6 = y.f6) && decide (x.f7 = y.f7)))))))
def samev (x y : En) : Bool := topv x y && sameLsv x.f8 y.f8
theorem topv_self (x : En) : topv x x = true := by simp [topv]
theorem samev_self (x : En) : samev x x = true := by unfold samev; rw [topv_self, Bool.true_and]; exact sameLsv_eq.2 rfl
theorem entrySame.eq (x y : En) (hs : x.f8.length ≤ 1000000) (ha : ∀ z ∈ x.f8, okL z) (hb : ∀ z ∈ y.f8, okL z) : Ev (fun k => F31.f k x.f0 x.f1 x.f2 x.f3 x.f4 x.f5 x.f6 x.f7 x.f8 y.f0 y.f1 y.f2 y.f3 y.f4 y.f5 y.f6 y.f7 y.f8) (samev x y) := by
 unfold F31.f F59.f samev
 simp only [Option.bind_some]
 have e : (x.f0 == y.f0 && (x.f1.toList == y.f1.toList && (x.f2 == y.f2 && (x.f3 == y.f3 && (x.f4 == y.f4 && (x.f5.toList == y.f5.toList && (x.f6.toList == y.f6.toList && (x.f7 == y.f7)))))))) = topv x y := by
  rw [Bool.eq_iff_iff]
  unfold topv
  simp only [Bool.and_eq_true, beq_iff_eq, byt_inj, decide_eq_true_eq]
 rw [e]
 cases topv x y with
 | false => simp only [Bool.false_eq_true, if_false, Bool.false_and]; exact Ev.const _
 | true => simp only [if_true, Bool.true_and]; exact Ev.bind (sameLines.eq x.f8 y.f8 hs ha hb) (Ev.const _)
theorem refSame.eq (x y : En) (hs : x.f8.length ≤ 1000000) (ha : ∀ z ∈ x.f8, okL z) : Ev (fun k => F30.f k x.f0 x.f1 x.f2 x.f3 x.f4 x.f5 x.f6 x.f7 x.f8 y.f0 y.f1 y.f2 y.f3 y.f4 y.f5 y.f6 y.f7 y.f8) (samev x y) := by
 unfold F30.f samev topv
 simp only [byt_inj]
 by_cases c0 : x.f0 = y.f0
 ·simp only [if_pos c0, decide_eq_true c0, Bool.true_and]
  by_cases c1 : x.f1 = y.f1
  ·simp only [if_pos c1, decide_eq_true c1, Bool.true_and]
   by_cases c2 : x.f2 = y.f2
   ·simp only [if_pos c2, decide_eq_true c2, Bool.true_and]
    by_cases c3 : x.f3 = y.f3
    ·simp only [if_pos c3, decide_eq_true c3, Bool.true_and]
     by_cases c4 : x.f4 = y.f4
     ·simp only [if_pos c4, decide_eq_true c4, Bool.true_and]
      by_cases c5 : x.f5 = y.f5
      ·simp only [if_pos c5, decide_eq_true c5, Bool.true_and]
       by_cases c6 : x.f6 = y.f6
       ·simp only [if_pos c6, decide_eq_true c6, Bool.true_and]
        by_cases c7 : x.f7 = y.f7
        ·simp only [if_pos c7, decide_eq_true c7, Bool.true_and]; exact Ev.bind (refSameLines.eq x.f8 y.f8 hs ha) (Ev.const _)
        ·simp only [if_neg c7, decide_eq_false c7, Bool.false_and]; exact Ev.const _
       ·simp only [if_neg c6, decide_eq_false c6, Bool.false_and]; exact Ev.const _
      ·simp only [if_neg c5, decide_eq_false c5, Bool.false_and]; exact Ev.const _
     ·simp only [if_neg c4, decide_eq_false c4, Bool.false_and]; exact Ev.const _
    ·simp only [if_neg c3, decide_eq_false c3, Bool.false_and]; exact Ev.const _
   ·simp only [if_neg c2, decide_eq_false c2, Bool.false_and]; exact Ev.const _
  ·simp only [if_neg c1, decide_eq_false c1, Bool.false_and]; exact Ev.const _
 ·simp only [if_neg c0, decide_eq_false c0, Bool.false_and]; exact Ev.const _
end Go.Proofs.YtjeecehhcajfaaaDoor.M
end
section
namespace Go.Proofs.YtjeecehhcajfaaaDoorW.PrintLast
open Go.RowKit Go.Proofs.YtjeecehhcajfaaaDoorW.PrintWords
set_option linter.unusedSimpArgs false
set_option linter.unusedVariables false
section
variable {P : Program} {ops : Array Oper} {o : Oper} {a : Act} {Q : Exit → Act → World → Prop} {Kc : Act → World → Prop} {α : Type}
theorem own_cells {w : World} {base : Nat} {e : TypeId} {size n cap g : Nat} {xs : List Value} (h : w.ownsRow base e size (.slice (some ⟨g, 0, none⟩) n cap) n xs) : ∀ j u, xs[j]? = some u → w.cell? ⟨g, j, none⟩ = some u := by
  rcases h.2 with ⟨hv, _⟩ | ⟨g', cap', cur, hv, hb, hg, hn, hc, hs, ht⟩
  · cases hv
  · injection hv with h1 _ _
    injection h1 with h1
    injection h1 with h1 _ _
    subst h1; intro j u hu; refine (cell_of_row w g j cur e (0, 0) hg).trans ?_; rw [← ht] at hu; rw [List.getElem?_take] at hu
    split at hu
    · simpa using hu
    · cases hu
theorem append_keeps {W : World} {base : Nat} (t ty e : TypeId) (i : TypeInfo) (z : Value) (size bytes : Nat) (ht : P.underlying t = some (.slice e)) (hi : P.info? e = some i) (hz : i.zero = some z)
    (hsize : i.size = size) (hby : i.bytes = bytes) (hzs : z.cells.size = size) (hsz : 0 < size) (g n cap : Nat) (xs ys : List Value) (hown : W.ownsRow base e size (.slice (some ⟨g, 0, none⟩) n cap) n xs)
    (hys : ys.length = size) (h1 : ∀ u ∈ ys, u.oneCell' = true) (h63 : n + 1 ≤ maxLen) (hbytes : (n + 1) * bytes ≤ 140737488355328) {v1 : Value} {w1 : World}
    (hr : (Builtin.append_ #[t, t] ty #[.slice (some ⟨g, 0, none⟩) n cap, .slice (some ⟨W.heap.size, 0, none⟩) 1 1]).run P (W.alloc (.cells ys.toArray e)) = .ok v1 w1) : ∀ j u, xs[j]? = some u → w1.cell? ⟨g, j, none⟩ = some u := by
  have hn2 : ∀ j u, ys[j]? = some u → (W.alloc (.cells ys.toArray e)).cell? ((⟨W.heap.size, 0, none⟩ : Addr).add j) = some u := by
    simpa using World.news_of_block (cs := ys.toArray) (t := e) (fr := (0, 0)) (heap_alloc_new W (.cells ys.toArray e))
  intro j u hu
  by_cases room : n + 1 ≤ cap
  · obtain ⟨w', hr2, ho2, _⟩ := run_append_fits (P := P) (w := W.alloc (.cells ys.toArray e)) base t ty e i size ht hi hsize g n cap xs (hown.alloc _) ⟨W.heap.size, 0, none⟩ 1 1 ys (by rw [hys]; simp) hn2 h1 room; rw [hr2] at hr; injection hr with e1 e2
    subst e2; refine own_cells ho2 j u ?_; have hj : j < xs.length := (List.getElem?_eq_some_iff.1 hu).1; rw [List.getElem?_append_left hj]; exact hu
  · have hcells : ∀ j u, xs[j]? = some u → (W.alloc (.cells ys.toArray e)).cell? ((⟨g, 0, none⟩ : Addr).add j) = some u := by
      intro j u hu; rw [Addr.add_lit, Nat.zero_add]; exact own_cells (hown.alloc _) j u hu
    obtain ⟨v', w', hr2, ho2, hg2⟩ := run_append_arg_grows (P := P) (w := W.alloc (.cells ys.toArray e)) t ty e i z size bytes ht hi hz hsize hby hzs hsz ⟨g, 0, none⟩ n cap xs hown.1 hcells ⟨W.heap.size, 0, none⟩ 1 1 ys (by rw [hys]; simp) hn2 (by omega) h63 hbytes; rw [hr2] at hr; injection hr with e1 e2
    subst e2; have hc := own_cells (hown.alloc (.cells ys.toArray e)) j u hu; exact (hg2.cell_far _ (World.block_lt_of_cell? _ _ hc) (by simp)).trans hc
theorem N_append_keep_step (d : Kd α) {w0 W : World} (base : Nat) (hw : Region.wanted o (yielded ops a.tmps) = true) (s x : Operand) (t e : TypeId) (z : Value) (bytes : Nat)
    (ho : o.op = .call { callee := .builtin .append, args := #[s, x], argTypes := #[t, t] })
    (ht : P.underlying t = some (.slice e)) (hinfo : (P.info? e).map (fun i => (i.zero, i.size, i.bytes)) = some (some z, d.sz, bytes)) (hz : z.cells.size = d.sz) (hs0 : 0 < d.sz) (hb0 : 0 < bytes)
    (A : Option Addr) (n c : Nat) (xs : List α) (p : α) (cs : List Value) (ok okp : Nat → Prop) (hs : a.eval s = .slice A n c) (hx : a.eval x = .slice (some ⟨W.heap.size, 0, none⟩) 1 1) (hp : Kd.FK d W okp p cs) (hokp : ∀ k, okp k → ok k ∧ some k ≠ (Value.slice A n c).ownBlock) (hfresh : ∀ k, W.heap.size ≤ k → ok k)
    (HO : Kd.N d e W base ok (.slice A n c) xs) (HB : Below base w0 W) (hbase : base ≤ W.heap.size) (hl : (xs.length + 1) * bytes ≤ 140737488355328)
    (h : ∀ v1 w1, Kd.N d e w1 base ok v1 (xs ++ [p]) → Below base w0 w1 → W.grownBy w1 (Value.slice A n c).ownBlock → (v1.ownBlock = (Value.slice A n c).ownBlock ∨ ∃ b, v1.ownBlock = some b ∧ W.heap.size ≤ b) → d.C w1 A xs.length xs → Kc (a.put o.dst v1) w1) :
    if Region.wanted o (yielded ops a.tmps) = true then Oper.wp P o a (W.alloc (.cells cs.toArray e)) Kc Q else Kc (a.put o.dst undef) (W.alloc (.cells cs.toArray e)) := by
  have HO0 := HO; obtain ⟨h0, rows, hlr, hR, hf⟩ := HO; obtain ⟨hn, hnc, hC0⟩ := Kd.N_reads' HO0; obtain ⟨hR0, inner, hown, hrr⟩ := hR; rw [hlr, ← hn] at hown; obtain ⟨i0, hi, hzz⟩ := Option.map_eq_some_iff.1 hinfo; simp only [Prod.mk.injEq] at hzz; obtain ⟨hz0, hz1, hz2⟩ := hzz; have hcs := (Kd.FK_raw hp).2; have hlen : n + 1 ≤ 140737488355328 := by rw [hn]; exact Nat.le_trans (Nat.le_mul_of_pos_right _ hb0) hl
  have hbytes : (n + 1) * bytes ≤ 140737488355328 := by rw [hn]; exact hl
  rw [if_pos hw]
  obtain ⟨v1, w1, hr, hown1, hg, _, hat⟩ := run_append_own_at (P := P) (W.alloc (.cells cs.toArray e)) base t o.type e i0 z d.sz bytes ht hi hz0 hz1 hz2 hz hs0 (.slice A n c) n inner (hown.alloc _) ⟨W.heap.size, 0, none⟩ 1 1 cs (by rw [hcs.1]; simp)
    (by simpa using World.news_of_block (cs := cs.toArray) (t := e) (fr := (0, 0)) (heap_alloc_new W (.cells cs.toArray e))) hcs.2 (by simp only [maxLen]; omega) hbytes (by simp; omega)
  have hgW : W.grownBy w1 (Value.slice A n c).ownBlock := World.grownBy.trans (World.grownBy_alloc W _ _) hg
  have hatW : v1.ownBlock = (Value.slice A n c).ownBlock ∨ ∃ b, v1.ownBlock = some b ∧ W.heap.size ≤ b := by
    rcases hat with hat | hat
    · exact .inl hat
    · exact .inr ⟨_, hat, by simp⟩
  have hbW : Below base w0 w1 := (HB.alloc hbase _).grown hg (by simp; omega) (own_base hown); have hfk : ∀ (j : Nat) (x : α) (c' : List Value), xs[j]? = some x → rows[j]? = some c' → d.K w1 x c' := fun j x c' h1 h2 => Kd.FK_now (Kd.FK_step (Kd.FK_bound (hf j x c' h1 h2)) (fun k hk hlt => hgW.block k hlt hk.1.2))
  have hNew : Kd.N d e w1 base ok v1 (xs ++ [p]) := by
    refine Kd.N_appended h0 hlr hf (ys := [p]) (news := [cs]) rfl (fun j y c' hy hc => ?_) hokp hfresh ?_ hgW hatW
    · rcases j with _ | j
      · simp only [List.getElem?_cons_zero, Option.some.injEq] at hy hc; rw [← hy, ← hc]; exact hp
      · simp at hy
    · refine ⟨fun _ _ => trivial, inner ++ cs, ?_, Reps.snoc hrr ⟨rfl, hcs.1, hcs.2⟩ hcs.1⟩; rw [List.length_append, hlr, ← hn]; exact hown1
  have hC : d.C w1 A xs.length xs := by
    refine ⟨rfl, hC0.2.1, fun hpos => ?_⟩; obtain ⟨ad, rfl, _⟩ := hC0.2.2 hpos; obtain ⟨g, rfl⟩ := Kd.R_head (⟨hR0, inner, by rw [hlr, ← hn]; exact hown, hrr⟩ : (Kd.raw d.sz).R e W base _ (.slice (some ad) n c) rows); have hk := append_keeps (P := P) t o.type e i0 z d.sz bytes ht hi hz0 hz1 hz2 hz hs0 g n c inner cs hown hcs.1 hcs.2 (by simp only [maxLen]; omega) hbytes hr; refine ⟨_, rfl, fun j q hj => ?_⟩; have hjl := (List.getElem?_eq_some_iff.1 hj).1; have hrj : rows[j]? = some rows[j] := List.getElem?_eq_getElem (by omega); obtain ⟨e1, e2, e3⟩ := hrr.2 j _ hrj; refine ⟨rows[j]'(by omega), ?_, hfk j q _ hj hrj, fun i u hu => ?_⟩
    · rw [← e1]; exact e2
    · rw [Addr.add_lit, Nat.zero_add]; refine hk _ u ?_; rw [← e1] at hu; rw [List.getElem?_take] at hu
      split at hu
      · rwa [List.getElem?_drop] at hu
      · cases hu
  unfold Oper.wp execOp
  simp only [ho, resolve, invoke, builtin, Sem.run_bind, Sem.run_pure, Result.andThen_ok, List.map_toArray, List.map_cons, List.map_nil, hs, hx, hr]; exact h v1 w1 hNew hbW hgW hatW hC
end
end Go.Proofs.YtjeecehhcajfaaaDoorW.PrintLast
end
section
namespace Go.Proofs.YtjeecehhcajfaaaDoor.M
open Go.RowKit Go.Proofs.YtjeecehhcajfaaaDoorW.PrintWords Go.Proofs.YtjeecehhcajfaaaDoorW.PrintLast Go.Proofs.YtjeecehhcajfaaaDoorW.PrintMore
attribute [local go_sem] max2_int min2_int max_two min_two max_three min_three max_four min_four
set_option linter.unusedVariables false
set_option linter.unusedSimpArgs false
theorem add64_run (x y c : Int) (hx : 0 ≤ x) (hy : 0 ≤ y) (hc0 : 0 ≤ c) (hc : c ≤ 1) (w : World) :
  (callFunc 83 #[.int .u64 x, .int .u64 y, .int .u64 c]).run Tryd.prog w = .ok (.value (.tuple #[.int .u64 ((x + y + c) % 18446744073709551616), .int .u64 ((x + y + c) / 18446744073709551616)])) w := by
 rw [run_callFunc_extern Tryd.func83 (by kernel_rfl) (by kernel_rfl) (by kernel_rfl) (e := add64Entry) (by kernel_rfl), run_add64 x y c hx hy hc0 hc]
 rfl
theorem u64w (x : Int) : IntKind.u64.wrap x = x % 18446744073709551616 := by first | rfl | (simp [IntKind.wrap]; done) | (unfold IntKind.wrap; simp)
def F74.g : List Int → Int → Int → Int × Int
 | [], hi, lo => (hi, lo)
 | x :: r, hi, lo => F74.g r ((hi + x / 9223372036854775808 + (lo + x % 18446744073709551616) / 18446744073709551616) % 18446744073709551616) ((lo + x) % 18446744073709551616)
def F74.e (p : Int × Int) : Int × Bool := if ((wrap64 p.2) / 9223372036854775808) % 18446744073709551616 ≠ p.1 then (0, false) else (wrap64 p.2, true)
def F74.f (l0 : List Int) : Option (Int × Bool) := if l0.length ≤ 140737488351232 then some (F74.e (F74.g l0 0 0)) else none
set_option maxHeartbeats 8000000 in
set_option maxRecDepth 100000 in
theorem F74.calls (A0 : Option Addr) (c0 : Nat) (l0 : List Int) (r1 : Int) (r2 : Bool) (w : World) (hr0 : Kd.C (Kd.int .i64) w A0 l0.length l0) (hc0 : l0.length ≤ c0) (h : F74.f l0 = some (r1, r2)) :
  Calls Tryd.prog 74 #[.slice A0 l0.length c0] w fun e w' => e = .returned (.tuple #[.int .i64 r1, .bool r2]) ∧ Drawn0 w w' := by
 have HR0 := Aside0.mk hr0; have HC0 := Aside0.mk hc0; clear hr0 hc0
 unfold F74.f at h
 split at h
 case isFalse => cases h
 rename_i hl
 have H := Aside0.mk (Option.some.inj h); have HL := Aside0.mk hl; clear h hl; go_enter Tryd.func74, Tryd.ntmps74
 go_wp2
 go_loopg [4, 5, 11] (l0.length + 1) (fun kq v4 v5 v11 w' => ∃ (hi lo : Int) (j : Nat), v4 = .int .u64 hi ∧ v5 = .int .u64 lo ∧ v11 = .int .i64 (j : Int) ∧ Aside0 (j + kq = l0.length + 1 ∧ j ≤ l0.length) ∧ Aside0 (0 ≤ hi ∧ 0 ≤ lo ∧ lo < 18446744073709551616) ∧ Aside0 (F74.e (F74.g (l0.drop j) hi lo) = (r1, r2)) ∧ Drawn0 w w')
 case atStart => exact ⟨0, 0, 0, rfl, rfl, rfl, ⟨by omega⟩, ⟨by omega⟩, H, pbb2_4⟩
 case round =>
  obtain ⟨hi, lo, j, rfl, rfl, rfl, HJ, HB, HA, ⟨m1, rfl⟩⟩ := hrel; have hj := HJ.out
  cases gk with
  | zero => exact absurd hj.1 (by omega)
  | succ k1 =>
   by_cases c2 : j < l0.length
   ·have c2b : decide ((j : Int) < (l0.length : Int)) = true := decide_eq_true (by omega); have p1 : 0 ≤ (j : Int) := by omega
    have q1 : (j : Int) < (l0.length : Int) := by omega
    obtain ⟨ad, e1, hx⟩ := Kd.at_int HR0.out (j : Int) p1 q1
    cases e1
    have hdr : l0.drop j = rd l0 (j : Int) :: l0.drop (j + 1) := by
     rw [List.drop_eq_getElem_cons c2]; congr 1; unfold rd; simp [c2]
    have hb := HB.out; generalize hxx : rd l0 (j : Int) = x at hx hdr; have hA := HA.out; rw [hdr] at hA
    unfold F74.g at hA
    have HJ2 : Aside0 ((j + 1) + k1 = l0.length + 1 ∧ j + 1 ≤ l0.length) := ⟨by omega⟩; have HA2 := Aside0.mk hA; have HW : Aside0 (wrap64 ((j : Int) + 1) = ((j + 1 : Nat) : Int)) := ⟨by have := HL.out; unfold wrap64; omega⟩; have ha1 := fun w => add64_run lo (x % 18446744073709551616) 0 hb.2.1 (Int.emod_nonneg _ (by omega)) (by omega) (by omega) w; have ha2 := fun w => add64_run hi ((x / 9223372036854775808) % 18446744073709551616) ((lo + x % 18446744073709551616) / 18446744073709551616) hb.1 (Int.emod_nonneg _ (by omega)) (by have := Int.emod_nonneg x (b := 18446744073709551616) (by omega); omega) (by have := Int.emod_lt_of_pos x (b := 18446744073709551616) (by omega); omega) w; simp only [Int.toNat_natCast] at hx; have hjd : decide (j < l0.length) = true := decide_eq_true c2; clear hA hdr hxx HA HJ hj hb
    go_wp2_with (first | simp only [u64w, ha1] | simp only [u64w, ha2])
    go_roundg k1
    case measure => omega
    case rel =>
     refine ⟨(hi + x / 9223372036854775808 + (lo + x % 18446744073709551616) / 18446744073709551616) % 18446744073709551616, (lo + x) % 18446744073709551616, j + 1, ?_, rfl, ?_, HJ2, ⟨?_⟩, HA2, pbb2_4⟩
     ·first | rfl | (congr 1; omega)
     ·have := HW.out; first | rfl | (rw [← this]; rfl) | (simp [*]; done)
     ·have := HB.out; omega
   ·have c2b : decide ((j : Int) < (l0.length : Int)) = false := decide_eq_false (by omega); have hjd : decide (j < l0.length) = false := decide_eq_false c2; have hA := HA.out; rw [List.drop_eq_nil_of_le (by omega)] at hA
    unfold F74.g F74.e at hA
    clear HA HJ hj
    by_cases z : ((wrap64 lo) / 9223372036854775808) % 18446744073709551616 = hi
    ·rw [if_neg (fun h => h z)] at hA; have zb : decide ((wrap64 lo) / 9223372036854775808 % 18446744073709551616 = hi) = true := decide_eq_true z; obtain ⟨rfl, rfl⟩ : wrap64 lo = r1 ∧ true = r2 := ⟨congrArg Prod.fst hA, congrArg Prod.snd hA⟩; clear hA
     go_wp2_with (first | simp only [u64w])
     go_ret2
     exact ⟨pbb2_3, pbb2_4⟩
    ·rw [if_pos z] at hA; have zb : decide ((wrap64 lo) / 9223372036854775808 % 18446744073709551616 = hi) = false := decide_eq_false z; obtain ⟨rfl, rfl⟩ : 0 = r1 ∧ false = r2 := ⟨congrArg Prod.fst hA, congrArg Prod.snd hA⟩; clear hA
     go_wp2_with (first | simp only [u64w])
     go_ret2
     exact ⟨pbb2_3, pbb2_4⟩
def F36.f (a0 : Int) (a1 : Int) : Option (Bool) := if a0 ≥ (wrap64 (-a1)) then (some (decide (a0 ≤ a1))) else (some false)
set_option maxHeartbeats 8000000 in
set_option maxRecDepth 100000 in
theorem F36.calls (a0 : Int) (a1 : Int) (r : Bool) (w : World) (h : F36.f a0 a1 = some r) :
    Calls Tryd.prog 36 #[.int .i64 a0, .int .i64 a1] w fun e w' => e = .returned (.bool r) ∧ Drawn0 w w' := by
 unfold F36.f at h
 have H := h; clear h
 by_cases c3 : a0 ≥ (wrap64 (-a1))
 ·rw [if_pos c3] at H; have c3b0 : decide ((wrap64 (-a1)) ≤ a0) = true := decide_eq_true c3; clear c3; obtain rfl := Option.some.inj H; go_enter Tryd.func36, Tryd.ntmps36
  go_wp2
  go_ret
  exact ⟨pbb2_3, pbb2_4⟩
 ·rw [if_neg c3] at H; have c3b0 : decide ((wrap64 (-a1)) ≤ a0) = false := decide_eq_false c3; clear c3; obtain rfl := Option.some.inj H; go_enter Tryd.func36, Tryd.ntmps36
  go_wp2
  go_ret
  exact ⟨pbb2_3, pbb2_4⟩
def F51.f (a0 : Int) (l1 : List Int) : Option (Int × Int) := (F74.f l1).bind fun bt101 => (if bt101.2 = true then ((F36.f bt101.1 a0).bind fun t103 => (if t103 = true then (some (bt101.1, 0)) else (some (0, 4)))) else (some (0, 4)))
set_option maxHeartbeats 8000000 in
set_option maxRecDepth 100000 in
theorem F51.calls (a0 : Int) (A1 : Option Addr) (c1 : Nat) (l1 : List Int) (r1 : Int) (r2 : Int) (w : World) (hr1 : Kd.C (Kd.int .i64) w A1 l1.length l1) (hc1 : l1.length ≤ c1) (h : F51.f a0 l1 = some (r1, r2)) :
    Calls Tryd.prog 51 #[.int .i64 a0, .slice A1 l1.length c1] w fun e w' => e = .returned (.tuple #[.int .i64 r1, .int .i64 r2]) ∧ Drawn0 w w' := by
 have HR1 := Aside0.mk hr1; have HC1 := Aside0.mk hc1; clear hr1 hc1
 unfold F51.f at h
 have H := h; clear h; obtain ⟨⟨t101, t102⟩, A30, H⟩ := bnd H; (try dsimp only at H); have A3 := Aside0.mk A30; clear A30
 by_cases c4 : t102 = true
 ·subst c4; rw [if_pos rfl] at H; obtain ⟨t103, A50, H⟩ := bnd H; have A5 := Aside0.mk A50; clear A50
  by_cases c6 : t103 = true
  ·subst c6; rw [if_pos rfl] at H; simp only [Option.some.injEq, Prod.mk.injEq] at H; obtain ⟨rfl, rfl⟩ := H; go_enter Tryd.func51, Tryd.ntmps51
   go_wp2_with (first | ((with_reducible refine gate_callee (f := 74) rfl ?_); refine goesL_ (some 10) rfl rfl Tryd.func74 (by kernel_rfl) rfl #[.slice A1 l1.length c1] rfl pbb2_5 ?_; (with_reducible refine (F74.calls _ _ l1 t101 true _ pbb4_2 HC1.out A3.out).mono ?_); rintro e w' ⟨rfl, ⟨nd, rfl⟩⟩; refine ⟨_, rfl, ?_⟩) | (go_at_call 36; (with_reducible refine (F36.calls t101 a0 true _ A5.out).mono ?_); rintro e w' ⟨rfl, ⟨nd, rfl⟩⟩))
   go_ret2
   exact ⟨pbb2_3, pbb2_4⟩
  ·replace c6 := Bool.eq_false_iff.mpr c6; subst c6; rw [if_neg (show ¬ (false = true) by decide)] at H; simp only [Option.some.injEq, Prod.mk.injEq] at H; obtain ⟨rfl, rfl⟩ := H; go_enter Tryd.func51, Tryd.ntmps51
   go_wp2_with (first | ((with_reducible refine gate_callee (f := 74) rfl ?_); refine goesL_ (some 10) rfl rfl Tryd.func74 (by kernel_rfl) rfl #[.slice A1 l1.length c1] rfl pbb2_5 ?_; (with_reducible refine (F74.calls _ _ l1 t101 true _ pbb4_2 HC1.out A3.out).mono ?_); rintro e w' ⟨rfl, ⟨nd, rfl⟩⟩; refine ⟨_, rfl, ?_⟩) | (go_at_call 36; (with_reducible refine (F36.calls t101 a0 false _ A5.out).mono ?_); rintro e w' ⟨rfl, ⟨nd, rfl⟩⟩))
   go_ret2
   exact ⟨pbb2_3, pbb2_4⟩
 ·replace c4 := Bool.eq_false_iff.mpr c4; subst c4; rw [if_neg (show ¬ (false = true) by decide)] at H; simp only [Option.some.injEq, Prod.mk.injEq] at H; obtain ⟨rfl, rfl⟩ := H; go_enter Tryd.func51, Tryd.ntmps51
  go_wp2_with (first | ((with_reducible refine gate_callee (f := 74) rfl ?_); refine goesL_ (some 10) rfl rfl Tryd.func74 (by kernel_rfl) rfl #[.slice A1 l1.length c1] rfl pbb2_5 ?_; (with_reducible refine (F74.calls _ _ l1 t101 false _ pbb4_2 HC1.out A3.out).mono ?_); rintro e w' ⟨rfl, ⟨nd, rfl⟩⟩; refine ⟨_, rfl, ?_⟩))
  go_ret2
  exact ⟨pbb2_3, pbb2_4⟩
end Go.Proofs.YtjeecehhcajfaaaDoor.M
end
section
namespace Go.Proofs.YtjeecehhcajfaaaDoorW.PrintLast
open Go.RowKit Go.Proofs.YtjeecehhcajfaaaDoorW.PrintWords
set_option linter.unusedSimpArgs false
set_option linter.unusedVariables false
section
variable {P : Program} {κ ν : Type} [DecidableEq κ]
def aget : List (κ × ν) → κ → Option ν
  | [], _ => none
  | p :: r, k => if p.1 = k then some p.2 else aget r k
def aput : List (κ × ν) → κ → ν → List (κ × ν)
  | [], k, v => [(k, v)]
  | p :: r, k, v => if p.1 = k then (k, v) :: r else p :: aput r k v
def hitAt (k : κ) : List κ → List MapEntry → Nat → Option (Nat × Value)
  | k' :: ks, e :: es, i => if k' = k then some (i, e.val) else hitAt k ks es (i + 1)
  | _, _, _ => none
structure KeyT (P : Program) (t : TypeId) (ek : κ → Value) : Prop where
  check : ∀ (e : Bool) (k : κ) (w : World), (Instr.checkKey e 10000 t (ek k)).run P w = .ok () w
  find : ∀ (k : κ) (l : List MapEntry) (ks : List κ) (w : World), l.map (·.key) = ks.map ek → (Instr.findKey t (ek k) l).run P w = .ok (hitAt k ks l 0) w
  same : ∀ k, Instr.sameBits 10000 (ek k) (ek k) = true
theorem findNow_hit {d : TypeDesc} {ek : κ → Value} (h : ∀ k k', Instr.sameNow d (ek k) (ek k') = some (decide (k' = k))) (k : κ) : ∀ (l : List MapEntry) (ks : List κ) (i : Nat), l.map (·.key) = ks.map ek → Instr.findNow d (ek k) l i = some (hitAt k ks l i)
  | [], [], i, _ => rfl
  | [], _ :: _, i, e => by simp at e
  | _ :: _, [], i, e => by simp at e
  | x :: l, k' :: ks, i, e => by
    simp only [List.map_cons, List.cons.injEq] at e
    unfold Instr.findNow hitAt
    rw [e.1, h k k']
    by_cases c : k' = k
    · simp [c]
    · simp [c, findNow_hit h k l ks (i + 1) e.2]
theorem KeyT.string {t : TypeId} (ht : P.underlying t = some .string) : KeyT P t Value.string where
  check := fun e k w => MapKept.run_checkKey (d := .string) ht (by simp [MapKept.IsKey]) e 9999
  find := fun k l ks w e => MapKept.run_findKey ht (findNow_hit (fun k k' => by
    simp only [Instr.sameNow, Option.some.injEq]
    by_cases c : k' = k
    · subst c; simp only [decide_true]; exact (MapKept.bytes_beq k' k').2 rfl
    · rw [decide_eq_false c]; rw [Bool.eq_false_iff]; exact fun h => c ((MapKept.bytes_beq k k').1 h).symm) k l ks 0 e)
  same := fun k => by simp only [Instr.sameBits]; exact (MapKept.bytes_beq k k).2 rfl
theorem KeyT.int {t : TypeId} {q : IntKind} (ht : P.underlying t = some (.int q)) : KeyT P t (Value.int q) where
  check := fun e k w => MapKept.run_checkKey (d := .int q) ht (by simp [MapKept.IsKey]) e 9999
  find := fun k l ks w e => MapKept.run_findKey ht (findNow_hit (fun k k' => by
    simp only [Instr.sameNow, if_true, Option.some.injEq]
    by_cases c : k' = k
    · subst c; simp
    · rw [decide_eq_false c]; exact beq_eq_false_iff_ne.2 (fun h => c h.symm)) k l ks 0 e)
  same := fun k => by simp [Instr.sameBits]
def MapIs (ek : κ → Value) (ev : ν → Value) (w : World) (b : Nat) (L : List (κ × ν)) : Prop :=
  ∃ (es : Array MapEntry) (clock : Nat), w.heap[b]? = some (.map es clock) ∧ es.toList.map (·.key) = L.map (fun p => ek p.1) ∧ es.toList.map (·.val) = L.map (fun p => ev p.2) ∧ (∀ e ∈ es.toList, e.born < clock) ∧ es.toList.Pairwise (fun x y => x.born ≠ y.born)
variable {ek : κ → Value} {ev : ν → Value} {w w' : World} {b : Nat} {L : List (κ × ν)}
omit [DecidableEq κ] in
theorem MapIs_made (ek : κ → Value) (ev : ν → Value) (w : World) : MapIs ek ev (w.alloc (.map #[] 0)) w.heap.size [] :=
  ⟨#[], 0, heap_alloc_new w _, rfl, rfl, by simp, by simp⟩
omit [DecidableEq κ] in
theorem MapIs.lt (h : MapIs ek ev w b L) : b < w.heap.size := by
  obtain ⟨es, clock, hb, _⟩ := h; exact (Array.getElem?_eq_some_iff.1 hb).1
omit [DecidableEq κ] in
theorem MapIs.move (h : MapIs ek ev w b L) (e : w'.heap[b]? = w.heap[b]?) : MapIs ek ev w' b L := by
  obtain ⟨es, clock, hb, r⟩ := h; exact ⟨es, clock, e.trans hb, r⟩
omit [DecidableEq κ] in
theorem MapIs.below (h : MapIs ek ev w b L) (hb : Below w.heap.size w w') : MapIs ek ev w' b L := h.move (hb.block b h.lt)
omit [DecidableEq κ] in
theorem MapIs.alloc (h : MapIs ek ev w b L) (o : Obj) : MapIs ek ev (w.alloc o) b L := h.move (Below.heap_alloc w o b h.lt)
theorem hitAt_get (k : κ) : ∀ (L : List (κ × ν)) (l : List MapEntry) (i : Nat), l.map (·.val) = L.map (fun p => ev p.2) → (hitAt k (L.map (·.1)) l i).map (·.2) = (aget L k).map ev
  | [], l, i, e => by cases l <;> simp [hitAt, aget] at *
  | p :: L, [], i, e => by simp at e
  | p :: L, x :: l, i, e => by
    simp only [List.map_cons, List.cons.injEq] at e; simp only [List.map_cons, hitAt, aget]
    by_cases c : p.1 = k
    · simp [c, e.1]
    · simp only [if_neg c]; exact hitAt_get k L l (i + 1) e.2
def lookV (ev : ν → Value) (L : List (κ × ν)) (k : κ) (z : Value) (c : Bool) : Value :=
  if c = true then .tuple #[((aget L k).map ev).getD z, .bool (aget L k).isSome] else ((aget L k).map ev).getD z
theorem MapIs.look {mt kt vt : TypeId} (h : MapIs ek ev w b L) (K : KeyT P kt ek) (ht : P.underlying mt = some (.map kt vt)) {z : Value} (hz : (zeroValue vt).run P w = .ok z w) (k : κ) (c : Bool) : (Instr.lookup mt (.map (some b)) (ek k) c).run P w = .ok (lookV ev L k z c) w := by
  obtain ⟨es, clock, hb, hk, hv, _⟩ := h; have hf := K.find k es.toList (L.map (·.1)) w (by rw [hk, List.map_map]; rfl); have hg := hitAt_get (ev := ev) k L es.toList 0 hv
  unfold Instr.lookup lookV
  simp only [Sem.run_bind, run_underlying ht, Result.andThen_ok, MapKept.run_getObj_map hb, K.check, hf, Sem.run_pure]
  cases hh : hitAt k (L.map (·.1)) es.toList 0 with
  | none =>
    rw [hh] at hg; have : aget L k = none := by cases ha : aget L k <;> simp [ha] at hg ⊢
    cases c <;> simp [this, Sem.run_bind, hz, Result.andThen, MapKept.run_getObj_map hb, K.check, hf, hh]
  | some r =>
    obtain ⟨i, v⟩ := r; rw [hh] at hg
    cases ha : aget L k with
    | none => simp [ha] at hg
    | some u =>
      simp [ha] at hg
      cases c <;> simp [hg, Sem.run_bind, Result.andThen, MapKept.run_getObj_map hb, K.check, hf, hh]
theorem hitAt_some (k : κ) : ∀ (L : List (κ × ν)) (l : List MapEntry) (i j : Nat) (v : Value), l.map (·.key) = L.map (fun p => ek p.1) → l.map (·.val) = L.map (fun p => ev p.2) → hitAt k (L.map (·.1)) l i = some (j, v) →
    ∃ n e, j = i + n ∧ l[n]? = some e ∧ e.key = ek k ∧ ∀ (f : MapEntry → MapEntry) (u : ν), (f e).key = ek k → (f e).val = ev u → (l.modify n f).map (·.key) = (aput L k u).map (fun p => ek p.1) ∧ (l.modify n f).map (·.val) = (aput L k u).map (fun p => ev p.2)
  | [], l, i, j, v, e1, e2, h => by cases l <;> simp [hitAt] at h
  | p :: L, [], i, j, v, e1, e2, h => by simp at e1
  | p :: L, x :: l, i, j, v, e1, e2, h => by
    simp only [List.map_cons, List.cons.injEq] at e1 e2; simp only [List.map_cons, hitAt] at h
    by_cases c : p.1 = k
    · rw [if_pos c] at h; simp only [Option.some.injEq, Prod.mk.injEq] at h; refine ⟨0, x, by omega, rfl, by rw [e1.1, c], fun f u hk hv => ?_⟩
      simp [aput, c, hk, hv, e1.2, e2.2]
    · rw [if_neg c] at h; obtain ⟨n, e, h1, h2, h3, h4⟩ := hitAt_some k L l (i + 1) j v e1.2 e2.2 h; refine ⟨n + 1, e, by omega, by simpa using h2, h3, fun f u hk hv => ?_⟩; have := h4 f u hk hv
      simp [aput, c, this.1, this.2, e1.1, e2.1]
theorem hitAt_none (k : κ) : ∀ (L : List (κ × ν)) (l : List MapEntry) (i : Nat), l.length = L.length → hitAt k (L.map (·.1)) l i = none → ∀ v, aput L k v = L ++ [(k, v)]
  | [], l, i, e, h, v => rfl
  | p :: L, [], i, e, h, v => by simp at e
  | p :: L, x :: l, i, e, h, v => by
    simp only [List.map_cons, hitAt] at h
    by_cases c : p.1 = k
    · rw [if_pos c] at h; cases h
    · rw [if_neg c] at h
      simp [aput, c, hitAt_none k L l (i + 1) (by simpa using e) h v]
theorem pairwise_modify {l : List MapEntry} (h : l.Pairwise (fun x y => x.born ≠ y.born)) (n : Nat) (f : MapEntry → MapEntry) (hf : ∀ e, (f e).born = e.born) : (l.modify n f).Pairwise (fun x y => x.born ≠ y.born) := by
  have e : (l.modify n f).map (·.born) = l.map (·.born) := by
    apply List.ext_getElem?; intro i; simp only [List.getElem?_map, List.getElem?_modify]
    cases l[i]? with
    | none => simp
    | some x => by_cases c : n = i <;> simp [c, hf]
  have h2 : (l.map (·.born)).Pairwise (· ≠ ·) := List.pairwise_map.2 h; rw [← e] at h2; exact List.pairwise_map.1 h2
theorem mem_modify {l : List MapEntry} {n : Nat} {f : MapEntry → MapEntry} {x : MapEntry} (hf : ∀ e, (f e).born = e.born) (h : x ∈ l.modify n f) : ∃ y ∈ l, x.born = y.born := by
  obtain ⟨i, hi⟩ := List.getElem?_of_mem h; rw [List.getElem?_modify] at hi
  cases hl : l[i]? with
  | none => simp [hl] at hi
  | some y =>
    refine ⟨y, List.mem_of_getElem? hl, ?_⟩
    by_cases c : n = i
    · simp [hl, c] at hi; rw [← hi, hf]
    · simp [hl, c] at hi; rw [hi]
theorem grown_set (w : World) (b : Nat) (o : Obj) : w.grownBy { w with heap := w.heap.setIfInBounds b o } (some b) :=
  ⟨rfl, rfl, rfl, by simp, fun i _ hi => by simp [Array.getElem?_setIfInBounds]; intro e; exact absurd (by rw [e]) hi⟩
theorem MapIs.upd {mt kt vt : TypeId} (h : MapIs ek ev w b L) (K : KeyT P kt ek) (ht : P.underlying mt = some (.map kt vt)) (k : κ) (v : ν) : ∃ w', (Instr.mapUpdate mt (.map (some b)) (ek k) (ev v)).run P w = .ok () w' ∧ MapIs ek ev w' b (aput L k v) ∧ w.grownBy w' (some b) ∧ w'.heap.size = w.heap.size := by
  obtain ⟨es, clock, hb, hk, hv, hbn, hpw⟩ := h; have hlt : b < w.heap.size := (Array.getElem?_eq_some_iff.1 hb).1; have hlen : es.toList.length = L.length := by have := congrArg List.length hk; simpa using this
  have hf := K.find k es.toList (L.map (·.1)) w (by rw [hk, List.map_map]; rfl); have hset : ∀ o : Obj, (w.heap.setIfInBounds b o)[b]? = some o := fun o => by simp [Array.getElem?_setIfInBounds, hlt]
  cases hh : hitAt k (L.map (·.1)) es.toList 0 with
  | none =>
    rw [hh] at hf; refine ⟨_, ?_, ⟨es.push { key := ek k, val := ev v, born := clock }, clock + 1, hset _, ?_, ?_, ?_, ?_⟩, grown_set w b _, by simp⟩
    · unfold Instr.mapUpdate
      simp only [Sem.run_bind, run_underlying ht, Result.andThen_ok, MapKept.run_getObj_map hb, K.check, hf]; exact MapKept.run_setObj_map _ hb
    · rw [hitAt_none k L _ 0 hlen hh]; simp [hk]
    · rw [hitAt_none k L _ 0 hlen hh]; simp [hv]
    · intro e he
      simp at he
      rcases he with he | rfl
      · have := hbn e (by simpa using he); omega
      · simp
    · rw [Array.toList_push, List.pairwise_append]; refine ⟨hpw, by simp, fun x hx y hy => ?_⟩
      simp at hy
      subst hy; have := hbn x hx; show x.born ≠ clock
      omega
  | some r =>
    obtain ⟨j, u⟩ := r; obtain ⟨n, e, hj, hn, hek, hm⟩ := hitAt_some (ev := ev) k L es.toList 0 j u hk hv hh; obtain rfl : j = n := by omega
    rw [hh] at hf; have hn' : es[j]? = some e := by simpa using hn
    have hm2 := hm (fun e => { e with key := ek k, val := ev v }) v rfl rfl; refine ⟨_, ?_, ⟨es.modify j (fun e => { e with key := ek k, val := ev v }), clock, hset _, ?_, ?_, ?_, ?_⟩, grown_set w b _, by simp⟩
    · unfold Instr.mapUpdate
      simp only [Sem.run_bind, run_underlying ht, Result.andThen_ok, MapKept.run_getObj_map hb, K.check, hf, hn', Option.map_some, Option.getD_some, hek, Instr.keyThatStays, K.same, if_true, Sem.run_pure]; exact MapKept.run_setObj_map _ hb
    · simpa using hm2.1
    · simpa using hm2.2
    · intro x hx; obtain ⟨y, hy, hb2⟩ := mem_modify (f := fun e => { e with key := ek k, val := ev v }) (n := j) (l := es.toList) (fun _ => rfl) (by simpa using hx); rw [hb2]; exact hbn y hy
    · have := pairwise_modify hpw j (fun e => { e with key := ek k, val := ev v }) (fun _ => rfl)
      simpa using this
theorem lookL_ {ops : Array Oper} {Q : Exit → Act → World → Prop} {rest : List Oper} {o : Oper} {a : Act} (hg : o.guard = none) {m x : Operand} {mt kt vt : TypeId} {c : Bool} (hop : o.op = .lookup mt m x c) (ht : P.underlying mt = some (.map kt vt)) (K : KeyT P kt ek) {z : Value} (hz : ∀ w, (zeroValue vt).run P w = .ok z w) (M : MapIs ek ev w b L) (k : κ) (hm : a.eval m = .map (some b)) (hx : a.eval x = ek k)
    (h : wpList P ops Q rest (a.put o.dst (lookV ev L k z c)) w) : wpList P ops Q (o :: rest) a w := by
  refine wpList_plain hg fun K' hK' => ?_
  unfold Oper.wp
  simp only [execOp, hop, hm, hx, Sem.run_bind, M.look K ht (hz w) k c, Result.andThen_ok, Sem.run_pure]; exact hK' _ _ h
theorem storeL_ {ops : Array Oper} {Q : Exit → Act → World → Prop} {rest : List Oper} {o : Oper} {a : Act} (hg : o.guard = none) {m x v : Operand} {mt kt vt : TypeId} (hop : o.op = .mapUpdate mt m x v) (ht : P.underlying mt = some (.map kt vt)) (K : KeyT P kt ek) (M : MapIs ek ev w b L) (k : κ) (u : ν) (hm : a.eval m = .map (some b)) (hx : a.eval x = ek k) (hv : a.eval v = ev u)
    (h : ∀ w', MapIs ek ev w' b (aput L k u) → w.grownBy w' (some b) → w'.heap.size = w.heap.size → wpList P ops Q rest (a.put o.dst undef) w') : wpList P ops Q (o :: rest) a w := by
  refine wpList_plain hg fun K' hK' => ?_; obtain ⟨w', hrun, h1, h2, h3⟩ := M.upd K ht k u
  unfold Oper.wp
  simp only [execOp, hop, hm, hx, hv, Sem.run_bind, hrun, Result.andThen_ok, Sem.run_pure]; exact hK' _ _ (h w' h1 h2 h3)
end
end Go.Proofs.YtjeecehhcajfaaaDoorW.PrintLast
end
section
namespace Go.Proofs.YtjeecehhcajfaaaDoorW.PrintLast
open Go.RowKit Go.Proofs.YtjeecehhcajfaaaDoorW.PrintWords
set_option linter.unusedSimpArgs false
set_option linter.unusedVariables false
section
variable {P : Program} {κ ν : Type} [DecidableEq κ] {ek : κ → Value} {ev : ν → Value} {w w' : World} {b : Nat} {L : List (κ × ν)}
theorem findAsking_hit {t : TypeId} (he : ∀ (k k' : κ) (w : World), (Op.equal t (ek k) (ek k')).run P w = .ok (decide (k' = k)) w) (k : κ) : ∀ (l : List MapEntry) (ks : List κ) (i : Nat) (w : World), l.map (·.key) = ks.map ek → (Instr.findAsking t (ek k) l i).run P w = .ok (hitAt k ks l i) w
  | [], [], i, w, _ => rfl
  | [], _ :: _, i, w, e => by simp at e
  | _ :: _, [], i, w, e => by simp at e
  | x :: l, k' :: ks, i, w, e => by
    simp only [List.map_cons, List.cons.injEq] at e
    unfold Instr.findAsking hitAt
    rw [e.1]; simp only [Sem.run_bind, he, Result.andThen_ok]
    by_cases c : k' = k
    · simp [c]
    · simp only [decide_eq_false c, Bool.false_eq_true, if_false, if_neg c]; exact findAsking_hit he k l ks (i + 1) w e.2
theorem KeyT.struct {t : TypeId} {fs : Array Field} (ht : P.underlying t = some (.struct fs)) (hc : ∀ (e : Bool) (k : κ) (w : World), (Instr.checkKey e 10000 t (ek k)).run P w = .ok () w) (he : ∀ (k k' : κ) (w : World), (Op.equal t (ek k) (ek k')).run P w = .ok (decide (k' = k)) w) (hs : ∀ k, Instr.sameBits 10000 (ek k) (ek k) = true) : KeyT P t ek where
  check := hc
  find := fun k l ks w e => by
    have h := findAsking_hit he k l ks 0 w e
    unfold Instr.findKey
    simp only [Sem.run_bind, run_underlying ht, Result.andThen_ok]
    cases l with
    | nil => cases ks <;> simp [Instr.findNow, hitAt] at e ⊢
    | cons x l => simpa [Instr.findNow, Instr.sameNow] using h
  same := hs
def EntryIs (ek : κ → Value) (ev : ν → Value) (w : World) (b : Nat) (L : List (κ × ν)) (k : κ) (st : Int) : Prop :=
  ∃ (es : Array MapEntry) (clock : Nat) (j : Nat) (e : MapEntry) (v : Value), w.heap[b]? = some (.map es clock) ∧ es.toList.map (·.key) = L.map (fun p => ek p.1) ∧ es.toList.map (·.val) = L.map (fun p => ev p.2) ∧ (∀ e ∈ es.toList, e.born < clock) ∧ es.toList.Pairwise (fun x y => x.born ≠ y.born) ∧ hitAt k (L.map (·.1)) es.toList 0 = some (j, v) ∧ es[j]? = some e ∧ (e.born : Int) = st
theorem EntryIs.move {k : κ} {st : Int} (h : EntryIs ek ev w b L k st) (e : w'.heap[b]? = w.heap[b]?) : EntryIs ek ev w' b L k st := by
  obtain ⟨es, clock, j, x, v, hb, r⟩ := h; exact ⟨es, clock, j, x, v, e.trans hb, r⟩
theorem EntryIs.map {k : κ} {st : Int} (h : EntryIs ek ev w b L k st) : MapIs ek ev w b L := by
  obtain ⟨es, clock, j, x, v, hb, hk, hv, hbn, hpw, _⟩ := h; exact ⟨es, clock, hb, hk, hv, hbn, hpw⟩
theorem pairwise_at {l : List MapEntry} (h : l.Pairwise (fun x y => x.born ≠ y.born)) {i j : Nat} {x y : MapEntry} (hi : l[i]? = some x) (hj : l[j]? = some y) (e : x.born = y.born) : i = j := by
  have hn : (l.map (·.born)).Nodup := List.pairwise_map.2 h; have h1 : (l.map (·.born))[i]? = some x.born := by simp [hi]
  have h2 : (l.map (·.born))[j]? = some x.born := by simp [hj, e]
  have hil := (List.getElem?_eq_some_iff.1 h1).1; exact (List.getElem?_inj hil hn).1 (h1.trans h2.symm)
theorem EntryIs.store {mt : TypeId} {k : κ} {st : Int} (h : EntryIs ek ev w b L k st) (u : ν) : ∃ w', (Instr.entryStore mt (.map (some b)) (.int .i64 st) (ev u)).run P w = .ok () w' ∧ MapIs ek ev w' b (aput L k u) ∧ w.grownBy w' (some b) ∧ w'.heap.size = w.heap.size := by
  obtain ⟨es, clock, j, e, v, hb, hk, hv, hbn, hpw, hh, hn', hst⟩ := h; have hlt : b < w.heap.size := (Array.getElem?_eq_some_iff.1 hb).1; obtain ⟨n, e2, hj, hn, hek, hm⟩ := hitAt_some (ev := ev) k L es.toList 0 j v hk hv hh; obtain rfl : j = n := by omega
  have hn2 : es.toList[j]? = some e := by simpa using hn'
  rw [hn2] at hn
  cases hn
  have hset : ∀ o : Obj, (w.heap.setIfInBounds b o)[b]? = some o := fun o => by simp [Array.getElem?_setIfInBounds, hlt]
  have hi : es.findIdx? (fun e => (e.born : Int) == st) = some j := by
    rw [Array.findIdx?_eq_some_iff_getElem]; have hjl := (Array.getElem?_eq_some_iff.1 hn').1; have hje := (Array.getElem?_eq_some_iff.1 hn').2; refine ⟨hjl, by simp [hje, hst], fun i hi => ?_⟩; have hil : i < es.size := by omega
    have h1 : es.toList[i]? = some es[i] := by simp
    have := fun q => pairwise_at hpw h1 hn2 q; intro hb2; have h3 : (es[i].born : Int) = st := by simpa using hb2
    have := this (by omega)
    omega
  have hm2 := hm (fun e => { e with val := ev u }) u hek rfl; refine ⟨_, ?_, ⟨es.modify j (fun e => { e with val := ev u }), clock, hset _, ?_, ?_, ?_, ?_⟩, grown_set w b _, by simp⟩
  · unfold Instr.entryStore
    simp only [Sem.run_bind, MapKept.run_getObj_map hb, Result.andThen_ok, asInt, asIntOf, Sem.run_pure, hi, MapKept.run_setObj_map _ hb]
  · simpa using hm2.1
  · simpa using hm2.2
  · intro x hx; obtain ⟨y, hy, hb2⟩ := mem_modify (f := fun e => { e with val := ev u }) (n := j) (l := es.toList) (fun _ => rfl) (by simpa using hx); rw [hb2]; exact hbn y hy
  · have := pairwise_modify hpw j (fun e => { e with val := ev u }) (fun _ => rfl)
    simpa using this
theorem lookV_get {k : κ} {d q : ν} (h : (aget L k).getD d = q) : lookV ev L k (ev d) false = ev q := by
  subst h
  unfold lookV
  cases aget L k <;> rfl
omit [DecidableEq κ] in
theorem MapIs.heap (h : MapIs ek ev w b L) (e : w'.heap = w.heap) : MapIs ek ev w' b L := h.move (by rw [e])
theorem exec_look {o : Oper} {ρ : Operand → Value} {w1 : World} {mt : TypeId} {m x : Operand} {c : Bool} {mv kv u v : Value} (hop : o.op = .lookup mt m x c) (hm : ρ m = mv) (hx : ρ x = kv) (h : (Instr.lookup mt mv kv c).run P w1 = .ok u w1) (e : u = v) : (execOp ρ o).run P w1 = .ok (.value v) w1 := by
  simp only [execOp, hop, hm, hx, Sem.run_bind, h, Result.andThen_ok, Sem.run_pure, e]
theorem cell_heap {w1 w2 : World} (e : w2.heap = w1.heap) {a : Addr} : w2.cell? a = w1.cell? a := by
  unfold World.cell?
  rw [e]
theorem nameW {c : Code} {Q : Exit → Act → World → Prop} {a : Act} {w1 : World} (h : ∀ W, w1 = W → c.wp P Q a W) : c.wp P Q a w1 := h w1 rfl
end
end Go.Proofs.YtjeecehhcajfaaaDoorW.PrintLast
end
section
namespace Go.Proofs.YtjeecehhcajfaaaDoorW.PrintLast
open Go.RowKit Go.Proofs.YtjeecehhcajfaaaDoorW.PrintWords
set_option linter.unusedSimpArgs false
set_option linter.unusedVariables false
section
variable {P : Program} {ops : Array Oper} {o : Oper} {a : Act} {Q : Exit → Act → World → Prop} {Kc : Act → World → Prop} {α : Type}
end
end Go.Proofs.YtjeecehhcajfaaaDoorW.PrintLast
end
section
namespace Go.Proofs.YtjeecehhcajfaaaDoorW.PrintLast
open Go.RowKit Go.Proofs.YtjeecehhcajfaaaDoorW.PrintWords
end Go.Proofs.YtjeecehhcajfaaaDoorW.PrintLast
end
section
namespace Go.Proofs.YtjeecehhcajfaaaDoor.M
open Go.RowKit Go.Proofs.YtjeecehhcajfaaaDoorW.PrintWords Go.Proofs.YtjeecehhcajfaaaDoorW.PrintLast Go.Proofs.YtjeecehhcajfaaaDoorW.PrintMore
attribute [local go_sem] max2_int min2_int max_two min_two max_three min_three max_four min_four
set_option linter.unusedVariables false
set_option linter.unusedSimpArgs false
abbrev Ln := S24
abbrev okOwn (w : World) (v : Value) : Nat → Prop := fun k => some k = v.ownBlock ∨ w.heap.size ≤ k
theorem kInt_move {w w1 : World} {base : Nat} {ok : Nat → Prop} {v : Value} {xs : List Int} (h : Kd.R (Kd.int .i64) 3 w base ok v xs) (hm : ∀ k, v.ownBlock = some k → w1.heap[k]? = w.heap[k]?) : Kd.R (Kd.int .i64) 3 w1 base ok v xs := by
 obtain ⟨h0, inner, ho, hr⟩ := h; exact ⟨h0, inner, own_move ho hm, hr⟩
theorem kInt_ok {w : World} {base : Nat} {ok ok' : Nat → Prop} {v : Value} {xs : List Int} (h : Kd.R (Kd.int .i64) 3 w base ok v xs) (hm : ∀ k, v.ownBlock = some k → ok' k) : Kd.R (Kd.int .i64) 3 w base ok' v xs := by
 obtain ⟨h0, inner, ho, hr⟩ := h; exact ⟨hm, inner, ho, hr⟩
theorem ne_of_typed {w : World} {base : Nat} {ok : Nat → Prop} {v : Value} {xs : List Int} (h : Kd.R (Kd.int .i64) 3 w base ok v xs) {g t : Nat} {cs : Array Value} (hg : w.heap[g]? = some (.cells cs t (0, 0))) (ht : t ≠ 3) : some g ≠ v.ownBlock := by
 intro e; obtain ⟨cells, hc⟩ := Kd.R_typed h g e.symm; rw [hg] at hc; injection hc with hc
 injection hc with _ h2
 exact ht h2
set_option maxHeartbeats 8000000 in
set_option maxRecDepth 100000 in
theorem column_add.calls (p : Nat) (x : Ln) (A6 : Option Addr) (c6 : Nat) (am bm : List Int) (va vb : Value) (base : Nat) (w : World)
  (hp : w.heap[p]? = some (.cells #[va, vb] 104 (0, 0))) (ha : Kd.R (Kd.int .i64) 3 w base (okOwn w va) va am) (hb : Kd.R (Kd.int .i64) 3 w base (okOwn w vb) vb bm) (hne : NeRow va vb) (hpb : base ≤ p) (hbase : base ≤ w.heap.size) (hl : am.length ≤ 1000000 ∧ bm.length ≤ 1000000) :
  Calls Tryd.prog 72 #[.pointer (some ⟨p, 0, none⟩), .agg #[.string x.f0, .string x.f1, .int .i64 x.f2, .int .i64 x.f3, .string x.f4, .string x.f5, .slice A6 x.f6.length c6]] w fun e w' => e = .returned (.tuple #[]) ∧ ∃ va' vb', w'.heap[p]? = some (.cells #[va', vb'] 104 (0, 0)) ∧ Kd.R (Kd.int .i64) 3 w' base (okOwn w va) va' (am ++ [x.f2]) ∧ Kd.R (Kd.int .i64) 3 w' base (okOwn w vb) vb' (bm ++ [x.f3]) ∧ NeRow va' vb' ∧ Below base w w' ∧ ∀ g, g < w.heap.size → g ≠ p → some g ≠ va.ownBlock → some g ≠ vb.ownBlock → w'.heap[g]? = w.heap[g]? := by
 have hplt := blk_lt hp
 have hpa : ∀ k, okOwn w va k → k ≠ p := fun k hk e => by
  subst e
  rcases hk with hk | hk
  ·exact ne_of_typed ha hp (by decide) hk
  ·omega
 have hpbb : ∀ k, okOwn w vb k → k ≠ p := fun k hk e => by
  subst e
  rcases hk with hk | hk
  ·exact ne_of_typed hb hp (by decide) hk
  ·omega
 have hab : ∀ k, okOwn w vb k → some k ≠ va.ownBlock := fun k hk e => by
  rcases hk with hk | hk
  ·exact hne k e.symm hk.symm
  ·have := Kd.R_lt ha k e.symm; omega
 have hba : ∀ k, okOwn w va k → some k ≠ vb.ownBlock := fun k hk e => by
  rcases hk with hk | hk
  ·exact hne k hk.symm e.symm
  ·have := Kd.R_lt hb k e.symm; omega
 have hXw : (w.alloc (.cells #[.string x.f0, .string x.f1, .int .i64 x.f2, .int .i64 x.f3, .string x.f4, .string x.f5, .slice A6 x.f6.length c6] 24)).heap[w.heap.size]? = some (.cells #[.string x.f0, .string x.f1, .int .i64 x.f2, .int .i64 x.f3, .string x.f4, .string x.f5, .slice A6 x.f6.length c6] 24 (0, 0)) := blk_new w _; go_enter Tryd.func72, Tryd.ntmps72
 go_wp2
 refine nameW ?_; intro W hW; have hX : Aside0 (W.heap[w.heap.size]? = some (.cells #[.string x.f0, .string x.f1, .int .i64 x.f2, .int .i64 x.f3, .string x.f4, .string x.f5, .slice A6 x.f6.length c6] 24 (0, 0))) := ⟨by rw [← hW]; exact hXw⟩; have hP : Aside0 (W.heap[p]? = some (.cells #[va, vb] 104 (0, 0))) := ⟨by rw [← hW]; exact blk_alloc hp _⟩; have hRA : Aside0 (Kd.R (Kd.int .i64) 3 W.drew base (okOwn w va) va am) := ⟨by rw [← hW]; exact Kd.R_drew (Kd.R_alloc ha _)⟩; have hRB : Aside0 (Kd.R (Kd.int .i64) 3 W.drew base (okOwn w vb) vb bm) := ⟨by rw [← hW]; exact Kd.R_drew (Kd.R_alloc hb _)⟩; have hSW : Aside0 (w.heap.size ≤ W.drew.heap.size) := ⟨by rw [← hW]; simp [World.drew]⟩; have hBW : Aside0 (Below base w W.drew) := ⟨by rw [← hW]; exact below_drew ((Below.refl base w).alloc hbase _)⟩; have hKW : Aside0 (∀ g, g < w.heap.size → W.drew.heap[g]? = w.heap[g]?) := ⟨by intro g hg; rw [← hW]; exact Below.heap_alloc w _ g hg⟩; have hBS : Aside0 (base ≤ W.drew.heap.size) := ⟨Nat.le_trans hbase hSW.out⟩; have hPa : ∀ g {t : Nat} {cs : Array Value}, W.heap[g]? = some (.cells cs t (0, 0)) → t ≠ 3 → some g ≠ va.ownBlock := fun g t cs hg ht => ne_of_typed hRA.out hg ht; have hPb : ∀ g {t : Nat} {cs : Array Value}, W.heap[g]? = some (.cells cs t (0, 0)) → t ≠ 3 → some g ≠ vb.ownBlock := fun g t cs hg ht => ne_of_typed hRB.out hg ht; clear hW hXw; refine start_ (n := 12) (S := fun w' => w'.heap[p]? = some (.cells #[va, vb] 104 (0, 0)) ∧ w'.heap[w.heap.size]? = some (.cells #[.string x.f0, .string x.f1, .int .i64 x.f2, .int .i64 x.f3, .string x.f4, .string x.f5, .slice A6 x.f6.length c6] 24 (0, 0))) (ds := [11]) (bq 12 0) (by kernel_rfl) rfl rfl ⟨hP.out, hX.out⟩ (fun hHeld => ?_); have hHeld0 := hHeld; refine pure_ (i := 0) (N := some 4) (v := ?_) (a' := ?_) (bq 12 1) rfl rfl (by kernel_rfl) (fun _ _ _ h => h) (Or.inl ⟨by rfl, ?_⟩) ?_ ?_; rotate_left
 ·intro w'; go_simp; with_reducible rfl
 rotate_left
 ·exact cbb2_0
 refine pure_ (i := 1) (N := some 5) (v := ?_) (a' := ?_) (bq 12 3) rfl rfl (by kernel_rfl) (fun _ _ _ h => h) (Or.inl ⟨by rfl, ?_⟩) ?_ ?_; rotate_left
 ·intro w'; go_simp; with_reducible rfl
 rotate_left
 ·exact cbb2_0
 refine pure_ (i := 2) (N := some 6) (v := ?_) (a' := ?_) (bq 12 7) rfl rfl (by kernel_rfl) (fun _ _ _ h => h) (Or.inl ⟨by rfl, ?_⟩) ?_ ?_; rotate_left
 ·intro w'; go_simp; with_reducible rfl
 rotate_left
 ·exact cbb2_0
 refine pure_ (i := 3) (N := some 7) (v := ?_) (a' := ?_) (bq 12 15) rfl rfl (by kernel_rfl) (fun _ _ _ h => h) (Or.inl ⟨by rfl, ?_⟩) ?_ ?_; rotate_left
 ·intro w'; go_simp; with_reducible rfl
 rotate_left
 ·exact cbb2_0
 refine take_ (i := 4) (N := some 8) (v := ?_) (a' := ?_) (bq 12 31) rfl rfl (by kernel_rfl) (fun _ _ _ h => h) (Or.inl ⟨by rfl, ?_⟩) hHeld ?_ ?_; rotate_left
 ·rintro w' ⟨s0, s1⟩; have k0 := (blk_cell s0 0).trans rfl; have k1 := (blk_cell s0 1).trans rfl; have k2 := (blk_cell s1 2).trans rfl; have k3 := (blk_cell s1 3).trans rfl; go_simp; with_reducible rfl
 rotate_left
 ·exact cbb2_0
 refine pure_ (i := 5) (N := some 9) (v := ?_) (a' := ?_) (bq 12 63) rfl rfl (by kernel_rfl) (fun _ _ _ h => h) (Or.inl ⟨by rfl, ?_⟩) ?_ ?_; rotate_left
 ·intro w'; go_simp; with_reducible rfl
 rotate_left
 ·exact cbb2_0
 refine take_ (i := 6) (N := some 10) (v := ?_) (a' := ?_) (bq 12 127) rfl rfl (by kernel_rfl) (fun _ _ _ h => h) (Or.inl ⟨by rfl, ?_⟩) hHeld ?_ ?_; rotate_left
 ·rintro w' ⟨s0, s1⟩; have k0 := (blk_cell s0 0).trans rfl; have k1 := (blk_cell s0 1).trans rfl; have k2 := (blk_cell s1 2).trans rfl; have k3 := (blk_cell s1 3).trans rfl; go_simp; with_reducible rfl
 rotate_left
 ·exact cbb2_0
 refine one_ (i := 7) (N := some 11) (bq 12 255) rfl rfl (by kernel_rfl) (by decide) (fun K hK => ?_); refine value_ (w1 := W.drew.alloc (.cells #[.int .i64 x.f2] 3)) (v := .slice (some ⟨W.drew.heap.size, 0, none⟩) 1 1) (by rfl) rfl (by first | (go_simp; done) | (go_simp; rfl)) ?_; refine hK.out _ _ ⟨blk_alloc hHeld.1 _, blk_alloc hHeld.2 _⟩ (fun hHeld => ?_); clear hK K; refine norm_ (a' := ?_) ?_ ?_; rotate_left
 ·show Act.put _ (some 11) _ = _; simp only [Act.put, List.setIfInBounds_toArray, List.set_cons_zero, List.set_cons_succ, i64_w, i32_w]
  rfl
 refine one_ (i := 8) (N := some 12) (bq 12 511) rfl rfl (by kernel_rfl) (by decide) (fun K hK => ?_); refine Kd.R_append_step (Kd.int .i64) (w0 := W.drew) (W := W.drew) base (by rfl) (.tmp 8) (.tmp 11) 80 3 (.int .i64 0) 8 rfl Tryd.underlying80 info3 rfl (by decide) (by omega) va am x.f2 [.int .i64 x.f2] (fun k => some k = va.ownBlock ∨ w.heap.size ≤ k) (fun _ => False) rfl rfl ?aP (fun _ hk => hk.elim) ?aF ?aO (Below.refl _ _) ?aS ?aL ?_
 case aP => exact rfl
 case aF => exact fun k hk => .inr (Nat.le_trans hSW.out hk)
 case aO => exact hRA.out
 case aS => exact hBS.out
 case aL => have := hl; omega
 intro va1 wa1 ho1 hb1 hg1 hat1; refine hK.out _ _ ⟨blk_grown (hHeld0.1) hg1 (hPa p hP.out (by decide)), blk_grown (hHeld0.2) hg1 (hPa w.heap.size hX.out (by decide))⟩ (fun hHeld => ?_); clear hK K; refine norm_ (a' := ?_) ?_ ?_; rotate_left
 ·show Act.put _ (some 12) _ = _; simp only [Act.put, List.setIfInBounds_toArray, List.set_cons_zero, List.set_cons_succ, i64_w, i32_w]
  rfl
 refine pure_ (i := 9) (N := some 13) (v := ?_) (a' := ?_) (bq 12 1023) rfl rfl (by kernel_rfl) (fun _ _ _ h => h) (Or.inl ⟨by rfl, ?_⟩) ?_ ?_; rotate_left
 ·intro w'; go_simp; with_reducible rfl
 rotate_left
 ·exact cbb2_0
 refine pure_ (i := 10) (N := some 14) (v := ?_) (a' := ?_) (bq 12 2047) rfl rfl (by kernel_rfl) (fun _ _ _ h => h) (Or.inl ⟨by rfl, ?_⟩) ?_ ?_; rotate_left
 ·intro w'; go_simp; with_reducible rfl
 rotate_left
 ·exact cbb2_0
 refine last_ (i := 11) (N := none) (bq 12 4095) rfl rfl (by kernel_rfl) (by decide) (fun K hK => ?_); have hc11 := (blk_cell hHeld.1 0).trans rfl; have hf11 := blk_frozen hHeld.1 0; refine skip_ (w1 := wa1.setCell ⟨p, 0, none⟩ va1) (by rfl) rfl (by obtain ⟨A1, c1, rfl⟩ := Kd.R_slice ho1; first | (go_simp; done) | (go_simp; rfl)) ?_; refine hK.out _ _ ?_; clear hK K; refine done_ (by kernel_rfl) ?_; have hX1 := hHeld.2; have hP1 := hHeld.1; clear hHeld hHeld0 hc11 hf11
 go_wp2
 refine nameW ?_; intro W2 hW2; have hne1 : w.heap.size ≠ p := by omega
 have hX2 : Aside0 (W2.heap[w.heap.size]? = some (.cells #[.string x.f0, .string x.f1, .int .i64 x.f2, .int .i64 x.f3, .string x.f4, .string x.f5, .slice A6 x.f6.length c6] 24 (0, 0))) := ⟨by rw [← hW2]; exact blk_far hX1 hne1 _⟩; have hP2 : Aside0 (W2.heap[p]? = some (.cells #[va1, vb] 104 (0, 0))) := ⟨by rw [← hW2]; exact blk_put hP1 0 _ rfl⟩; have hRA2 : Aside0 (Kd.R (Kd.int .i64) 3 W2.drew base (okOwn w va) va1 (am ++ [x.f2])) := ⟨by rw [← hW2]; exact Kd.R_drew (Kd.R_far ho1 (p := ⟨p, 0, none⟩) hpa _)⟩; have hRB2 : Aside0 (Kd.R (Kd.int .i64) 3 W2.drew base (okOwn w vb) vb bm) := ⟨by rw [← hW2]; exact Kd.R_drew (Kd.R_far (Kd.R_grown hRB.out hg1 hab) (p := ⟨p, 0, none⟩) hpbb _)⟩; have hBW2 : Aside0 (Below base w W2.drew) := ⟨by rw [← hW2]; exact below_drew ((hBW.out.trans hb1).setCell (p := ⟨p, 0, none⟩) hpb _)⟩; have hSW2 : Aside0 (w.heap.size ≤ W2.drew.heap.size) := ⟨hBW2.out.size⟩; have hBS2 : Aside0 (base ≤ W2.drew.heap.size) := ⟨Nat.le_trans hbase hSW2.out⟩
 have hKW2 : Aside0 (∀ g, g < w.heap.size → g ≠ p → some g ≠ va.ownBlock → W2.drew.heap[g]? = w.heap[g]?) := ⟨by
  intro g h1 h2 h3; rw [← hW2]; exact (Below.heap_setCell wa1 ⟨p, 0, none⟩ va1 g h2).trans ((hg1.block g (Nat.lt_of_lt_of_le h1 hSW.out) h3).trans (hKW.out g h1))⟩
 clear hW2 ho1 hb1 hg1 hX1 hP1; refine start_ (n := 12) (S := fun w' => w'.heap[p]? = some (.cells #[va1, vb] 104 (0, 0)) ∧ w'.heap[w.heap.size]? = some (.cells #[.string x.f0, .string x.f1, .int .i64 x.f2, .int .i64 x.f3, .string x.f4, .string x.f5, .slice A6 x.f6.length c6] 24 (0, 0))) (ds := [11]) (bq 12 0) (by kernel_rfl) rfl rfl ⟨hP2.out, hX2.out⟩ (fun hHeld => ?_); have hHeld0 := hHeld; refine pure_ (i := 0) (N := some 15) (v := ?_) (a' := ?_) (bq 12 1) rfl rfl (by kernel_rfl) (fun _ _ _ h => h) (Or.inl ⟨by rfl, ?_⟩) ?_ ?_; rotate_left
 ·intro w'; go_simp; with_reducible rfl
 rotate_left
 ·exact cbb2_0
 refine pure_ (i := 1) (N := some 16) (v := ?_) (a' := ?_) (bq 12 3) rfl rfl (by kernel_rfl) (fun _ _ _ h => h) (Or.inl ⟨by rfl, ?_⟩) ?_ ?_; rotate_left
 ·intro w'; go_simp; with_reducible rfl
 rotate_left
 ·exact cbb2_0
 refine pure_ (i := 2) (N := some 17) (v := ?_) (a' := ?_) (bq 12 7) rfl rfl (by kernel_rfl) (fun _ _ _ h => h) (Or.inl ⟨by rfl, ?_⟩) ?_ ?_; rotate_left
 ·intro w'; go_simp; with_reducible rfl
 rotate_left
 ·exact cbb2_0
 refine pure_ (i := 3) (N := some 18) (v := ?_) (a' := ?_) (bq 12 15) rfl rfl (by kernel_rfl) (fun _ _ _ h => h) (Or.inl ⟨by rfl, ?_⟩) ?_ ?_; rotate_left
 ·intro w'; go_simp; with_reducible rfl
 rotate_left
 ·exact cbb2_0
 refine take_ (i := 4) (N := some 19) (v := ?_) (a' := ?_) (bq 12 31) rfl rfl (by kernel_rfl) (fun _ _ _ h => h) (Or.inl ⟨by rfl, ?_⟩) hHeld ?_ ?_; rotate_left
 ·rintro w' ⟨s0, s1⟩; have k0 := (blk_cell s0 0).trans rfl; have k1 := (blk_cell s0 1).trans rfl; have k2 := (blk_cell s1 2).trans rfl; have k3 := (blk_cell s1 3).trans rfl; go_simp; with_reducible rfl
 rotate_left
 ·exact cbb2_0
 refine pure_ (i := 5) (N := some 20) (v := ?_) (a' := ?_) (bq 12 63) rfl rfl (by kernel_rfl) (fun _ _ _ h => h) (Or.inl ⟨by rfl, ?_⟩) ?_ ?_; rotate_left
 ·intro w'; go_simp; with_reducible rfl
 rotate_left
 ·exact cbb2_0
 refine take_ (i := 6) (N := some 21) (v := ?_) (a' := ?_) (bq 12 127) rfl rfl (by kernel_rfl) (fun _ _ _ h => h) (Or.inl ⟨by rfl, ?_⟩) hHeld ?_ ?_; rotate_left
 ·rintro w' ⟨s0, s1⟩; have k0 := (blk_cell s0 0).trans rfl; have k1 := (blk_cell s0 1).trans rfl; have k2 := (blk_cell s1 2).trans rfl; have k3 := (blk_cell s1 3).trans rfl; go_simp; with_reducible rfl
 rotate_left
 ·exact cbb2_0
 refine one_ (i := 7) (N := some 22) (bq 12 255) rfl rfl (by kernel_rfl) (by decide) (fun K hK => ?_); refine value_ (w1 := W2.drew.alloc (.cells #[.int .i64 x.f3] 3)) (v := .slice (some ⟨W2.drew.heap.size, 0, none⟩) 1 1) (by rfl) rfl (by first | (go_simp; done) | (go_simp; rfl)) ?_; refine hK.out _ _ ⟨blk_alloc hHeld.1 _, blk_alloc hHeld.2 _⟩ (fun hHeld => ?_); clear hK K; refine norm_ (a' := ?_) ?_ ?_; rotate_left
 ·show Act.put _ (some 22) _ = _; simp only [Act.put, List.setIfInBounds_toArray, List.set_cons_zero, List.set_cons_succ, i64_w, i32_w]
  rfl
 refine one_ (i := 8) (N := some 23) (bq 12 511) rfl rfl (by kernel_rfl) (by decide) (fun K hK => ?_); refine Kd.R_append_step (Kd.int .i64) (w0 := W2.drew) (W := W2.drew) base (by rfl) (.tmp 19) (.tmp 22) 80 3 (.int .i64 0) 8 rfl Tryd.underlying80 info3 rfl (by decide) (by omega) vb bm x.f3 [.int .i64 x.f3] (fun k => some k = vb.ownBlock ∨ w.heap.size ≤ k) (fun _ => False) rfl rfl ?aP (fun _ hk => hk.elim) ?aF ?aO (Below.refl _ _) ?aS ?aL ?_
 case aP => exact rfl
 case aF => exact fun k hk => .inr (Nat.le_trans hSW2.out hk)
 case aO => exact hRB2.out
 case aS => exact hBS2.out
 case aL => have := hl; omega
 intro v1 w1 ho hb hg hat; refine hK.out _ _ ⟨blk_grown (hHeld0.1) hg (hPb p hP.out (by decide)), blk_grown (hHeld0.2) hg (hPb w.heap.size hX.out (by decide))⟩ (fun hHeld => ?_); clear hK K; refine norm_ (a' := ?_) ?_ ?_; rotate_left
 ·show Act.put _ (some 23) _ = _; simp only [Act.put, List.setIfInBounds_toArray, List.set_cons_zero, List.set_cons_succ, i64_w, i32_w]
  rfl
 refine pure_ (i := 9) (N := some 24) (v := ?_) (a' := ?_) (bq 12 1023) rfl rfl (by kernel_rfl) (fun _ _ _ h => h) (Or.inl ⟨by rfl, ?_⟩) ?_ ?_; rotate_left
 ·intro w'; go_simp; with_reducible rfl
 rotate_left
 ·exact cbb2_0
 refine pure_ (i := 10) (N := some 25) (v := ?_) (a' := ?_) (bq 12 2047) rfl rfl (by kernel_rfl) (fun _ _ _ h => h) (Or.inl ⟨by rfl, ?_⟩) ?_ ?_; rotate_left
 ·intro w'; go_simp; with_reducible rfl
 rotate_left
 ·exact cbb2_0
 refine last_ (i := 11) (N := none) (bq 12 4095) rfl rfl (by kernel_rfl) (by decide) (fun K hK => ?_); have hc11 := (blk_cell hHeld.1 1).trans rfl; have hf11 := blk_frozen hHeld.1 1; refine skip_ (w1 := w1.setCell ⟨p, 1, none⟩ v1) (by rfl) rfl (by obtain ⟨A1, c1, rfl⟩ := Kd.R_slice ho; first | (go_simp; done) | (go_simp; rfl)) ?_; refine hK.out _ _ ?_; clear hK K; refine done_ (by kernel_rfl) ?_; have hX3 := hHeld.2; have hP3 := hHeld.1; clear hHeld hHeld0 hc11 hf11
 go_wp2
 first | go_end0 | ((try simp only [Exit.inBlock, Exit.then]); refine bodyPost_ret (results_none rfl _ _ _) rfl ?_)
 refine ⟨rfl, va1, v1, blk_put hP3 1 _ rfl, Kd.R_far (Kd.R_grown hRA2.out hg hba) (p := ⟨p, 1, none⟩) hpa _, Kd.R_far ho (p := ⟨p, 1, none⟩) hpbb _, ?_, (hBW2.out.trans hb).setCell (p := ⟨p, 1, none⟩) hpb _, ?_⟩
 ·intro k hk1 hk2; have h3 := hRA2.out.1 k hk1; have h4 : k < W2.drew.heap.size := Kd.R_lt hRA2.out k hk1
  rcases hat with hat | ⟨b, hb2, hle⟩
  ·rw [hat] at hk2; exact hba k h3 hk2.symm
  ·rw [hb2] at hk2; injection hk2 with hk2
   omega
 ·intro g h1 h2 h3 h4; exact (Below.heap_setCell w1 ⟨p, 1, none⟩ v1 g h2).trans ((hg.block g (Nat.lt_of_lt_of_le h1 hSW2.out) h4).trans (hKW2.out g h1 h2 h3))
def bothf (lim : Int) (am bm : List Int) : Option (Int × Int × Int) := (F51.f lim am).bind fun p => if p.2 = 0 then (F51.f lim bm).bind fun q => if q.2 = 0 then some (p.1, q.1, 0) else some (0, 0, q.2) else some (0, 0, p.2)
set_option maxHeartbeats 8000000 in
set_option maxRecDepth 100000 in
theorem column_both.calls (p : Nat) (lim : Int) (am bm : List Int) (va vb : Value) (base : Nat) (ok1 ok2 : Nat → Prop) (w : World) (a b er : Int)
  (hp : w.heap[p]? = some (.cells #[va, vb] 104 (0, 0))) (ha : Kd.R (Kd.int .i64) 3 w base ok1 va am) (hb : Kd.R (Kd.int .i64) 3 w base ok2 vb bm) (h : bothf lim am bm = some (a, b, er)) :
  Calls Tryd.prog 48 #[.pointer (some ⟨p, 0, none⟩), .int .i64 lim] w fun e w' => e = .returned (.tuple #[.int .i64 a, .int .i64 b, .int .i64 er]) ∧ Drawn0 w w' := by
 obtain ⟨A1, c1, rfl⟩ := Kd.R_slice ha; obtain ⟨A2, c2, rfl⟩ := Kd.R_slice hb; obtain ⟨_, hc1, hC1⟩ := Kd.R_reads' ha; obtain ⟨_, hc2, hC2⟩ := Kd.R_reads' hb; have HP := Aside0.mk hp; have HC1 := Aside0.mk hC1; have HC2 := Aside0.mk hC2; have hk0 := (blk_cell hp 0).trans rfl; have hk1 := (blk_cell hp 1).trans rfl
 unfold bothf at h
 obtain ⟨⟨s1, e1⟩, hs1, h⟩ := Option.bind_eq_some_iff.mp h; have HS1 := Aside0.mk hs1; clear hs1 ha hb hC1 hC2 hp; simp only at h
 by_cases z1 : e1 = 0
 ·subst z1; rw [if_pos rfl] at h; obtain ⟨⟨s2, e2⟩, hs2, h⟩ := Option.bind_eq_some_iff.mp h; have HS2 := Aside0.mk hs2; clear hs2; simp only at h
  by_cases z2 : e2 = 0
  ·subst z2; rw [if_pos rfl] at h; obtain ⟨rfl, h2⟩ := Prod.mk.inj (Option.some.inj h); obtain ⟨rfl, rfl⟩ := Prod.mk.inj h2; clear h h2; go_enter Tryd.func48, Tryd.ntmps48
   go_wp2_with (first
    | (go_at_call 51; first
      | ((with_reducible refine (F51.calls lim A1 c1 am _ _ _ ?sideA ?sideB HS1.out).mono ?_); (case sideA => exact HC1.out); (case sideB => exact hc1); rintro e w' ⟨rfl, ⟨nd, rfl⟩⟩)
      | ((with_reducible refine (F51.calls lim A2 c2 bm _ _ _ ?sideA ?sideB HS2.out).mono ?_); (case sideA => exact Kd.C_drewN HC2.out _); (case sideB => exact hc2); rintro e w' ⟨rfl, ⟨nd, rfl⟩⟩)))
   go_ret3
   exact ⟨rfl, pbb2_4⟩
  ·rw [if_neg z2] at h; obtain ⟨rfl, h2⟩ := Prod.mk.inj (Option.some.inj h); obtain ⟨rfl, rfl⟩ := Prod.mk.inj h2; have z2b : (e2 == 0) = false := beq_eq_false_iff_ne.2 z2; have z2c : (e2 != 0) = true := by simp [z2]
   clear h h2; go_enter Tryd.func48, Tryd.ntmps48
   go_wp2_with (first
    | (go_at_call 51; first
      | ((with_reducible refine (F51.calls lim A1 c1 am _ _ _ ?sideA ?sideB HS1.out).mono ?_); (case sideA => exact HC1.out); (case sideB => exact hc1); rintro e w' ⟨rfl, ⟨nd, rfl⟩⟩)
      | ((with_reducible refine (F51.calls lim A2 c2 bm _ _ _ ?sideA ?sideB HS2.out).mono ?_); (case sideA => exact Kd.C_drewN HC2.out _); (case sideB => exact hc2); rintro e w' ⟨rfl, ⟨nd, rfl⟩⟩)))
   go_ret3
   exact ⟨rfl, pbb2_4⟩
 ·rw [if_neg z1] at h; obtain ⟨rfl, h2⟩ := Prod.mk.inj (Option.some.inj h); obtain ⟨rfl, rfl⟩ := Prod.mk.inj h2; have z1b : (e1 == 0) = false := beq_eq_false_iff_ne.2 z1; have z1c : (e1 != 0) = true := by simp [z1]
  clear h h2; go_enter Tryd.func48, Tryd.ntmps48
  go_wp2_with (first
   | (go_at_call 51; (with_reducible refine (F51.calls lim A1 c1 am _ _ _ ?sideA ?sideB HS1.out).mono ?_); (case sideA => exact HC1.out); (case sideB => exact hc1); rintro e w' ⟨rfl, ⟨nd, rfl⟩⟩))
  go_ret3
  exact ⟨rfl, pbb2_4⟩
end Go.Proofs.YtjeecehhcajfaaaDoor.M
end
section
namespace Go.Proofs.YtjeecehhcajfaaaDoorW.PrintLast
open Go.RowKit Go.Proofs.YtjeecehhcajfaaaDoorW.PrintWords Go.ChangeMaps
set_option linter.unusedSimpArgs false
set_option linter.unusedVariables false
section
variable {P : Program} {κ ν : Type} [DecidableEq κ] {ek : κ → Value} {ev : ν → Value} {w w' : World} {b r : Nat} {L rest : List (κ × ν)}
def IterIs (ek : κ → Value) (ev : ν → Value) (w : World) (r b : Nat) (rest : List (κ × ν)) : Prop :=
  ∃ (es : Array MapEntry) (clock since c0 : Nat) (seen : Array Nat), w.heap[b]? = some (.map es clock) ∧ w.heap[r]? = some (.mapIter (some b) since seen c0) ∧ (∀ x ∈ es.toList, x.born < since) ∧ since ≤ c0 ∧ since ≤ clock ∧ (es.toList.map (·.born)).Nodup ∧ (leftOf es seen).toList.map (·.key) = rest.map (fun p => ek p.1) ∧ (leftOf es seen).toList.map (·.val) = rest.map (fun p => ev p.2)
omit [DecidableEq κ] in
theorem IterIs.move (h : IterIs ek ev w r b rest) (e1 : w'.heap[b]? = w.heap[b]?) (e2 : w'.heap[r]? = w.heap[r]?) : IterIs ek ev w' r b rest := by
  obtain ⟨es, clock, since, c0, seen, h1, h2, h⟩ := h; exact ⟨es, clock, since, c0, seen, e1.trans h1, e2.trans h2, h⟩
omit [DecidableEq κ] in
theorem IterIs.lt (h : IterIs ek ev w r b rest) : b < w.heap.size ∧ r < w.heap.size := by
  obtain ⟨es, clock, since, c0, seen, h1, h2, h⟩ := h; exact ⟨(Array.getElem?_eq_some_iff.1 h1).1, (Array.getElem?_eq_some_iff.1 h2).1⟩
omit [DecidableEq κ] in
theorem IterIs.below (h : IterIs ek ev w r b rest) (hb : Below w.heap.size w w') : IterIs ek ev w' r b rest := h.move (hb.block b h.lt.1) (hb.block r h.lt.2)
omit [DecidableEq κ] in
theorem IterIs.grown (h : IterIs ek ev w r b rest) {row : Option Nat} (hg : w.grownBy w' row) (h1 : some b ≠ row) (h2 : some r ≠ row) : IterIs ek ev w' r b rest := h.move (hg.block b h.lt.1 h1) (hg.block r h.lt.2 h2)
omit [DecidableEq κ] in
theorem MapIs.grown (h : MapIs ek ev w b L) {row : Option Nat} (hg : w.grownBy w' row) (h1 : some b ≠ row) : MapIs ek ev w' b L := h.move (hg.block b h.lt h1)
theorem makeL_ {ops : Array Oper} {Q : Exit → Act → World → Prop} {more : List Oper} {o : Oper} {a : Act} (hg : o.guard = none) {mt : TypeId} (hop : o.op = .makeMap mt none)
    (h : wpList P ops Q more (a.put o.dst (.map (some w.heap.size))) (w.alloc (.map #[] 0))) : wpList P ops Q (o :: more) a w := by
  refine wpList_plain hg fun K' hK' => ?_
  unfold Oper.wp
  simp only [execOp, hop, Option.map_none, Instr.makeMap, newObj, Sem.run_bind, Sem.run, Result.andThen, Sem.run_pure]; exact hK' _ _ h
end
end Go.Proofs.YtjeecehhcajfaaaDoorW.PrintLast
end
section
namespace Go.Proofs.YtjeecehhcajfaaaDoorW.PrintLast
open Go.RowKit Go.Proofs.YtjeecehhcajfaaaDoorW.PrintWords
set_option linter.unusedSimpArgs false
set_option linter.unusedVariables false
section
variable {P : Program} {κ ν : Type} [DecidableEq κ] {ek : κ → Value} {ev : ν → Value} {w w' : World} {b : Nat} {L : List (κ × ν)}
end
end Go.Proofs.YtjeecehhcajfaaaDoorW.PrintLast
end
section
namespace Go.Proofs.YtjeecehhcajfaaaDoorW.PrintLast
open Go.RowKit Go.Proofs.YtjeecehhcajfaaaDoorW.PrintWords
section
variable {P : Program} {ops : Array Oper} {Q : Exit → Act → World → Prop}
end
end Go.Proofs.YtjeecehhcajfaaaDoorW.PrintLast
end
section
namespace Go.Proofs.YtjeecehhcajfaaaDoor.M
open Go.RowKit Go.Proofs.YtjeecehhcajfaaaDoorW.PrintWords Go.Proofs.YtjeecehhcajfaaaDoorW.PrintLast Go.Proofs.YtjeecehhcajfaaaDoorW.PrintMore
set_option linter.unusedVariables false
set_option linter.unusedSimpArgs false
section
variable {κ : Type} [DecidableEq κ]
abbrev Col (κ : Type) := κ × List Int × List Int
def colNew (L : List (Col κ)) (k : κ) : List (Col κ) := if L.any (fun q => decide (q.1 = k)) = true then L else L ++ [(k, [], [])]
def colPut (L : List (Col κ)) (k : κ) (a b : Int) : List (Col κ) := L.map fun q => if q.1 = k then (q.1, q.2.1 ++ [a], q.2.2 ++ [b]) else q
def colStep (key : Ln → κ) (L : List (Col κ)) (x : Ln) : List (Col κ) := colPut (colNew L (key x)) (key x) x.f2 x.f3
def colsOf (key : Ln → κ) (l : List Ln) : List (Col κ) := l.foldl (colStep key) []
theorem colsOf_snoc (key : Ln → κ) (l : List Ln) (x : Ln) : colsOf key (l ++ [x]) = colStep key (colsOf key l) x := by simp [colsOf]
theorem colPut_keys (L : List (Col κ)) (k : κ) (a b : Int) : (colPut L k a b).map (·.1) = L.map (·.1) := by
 unfold colPut
 rw [List.map_map]; apply List.map_congr_left; intro q _
 by_cases c : q.1 = k <;> simp [c]
theorem colPut_at (L : List (Col κ)) (k : κ) (a b : Int) (i : Nat) : (colPut L k a b)[i]? = (L[i]?).map fun q => if q.1 = k then (q.1, q.2.1 ++ [a], q.2.2 ++ [b]) else q := by simp [colPut]
theorem any_key (L : List (Col κ)) (k : κ) : L.any (fun q => decide (q.1 = k)) = true ↔ k ∈ L.map (·.1) := by simp
theorem colNew_nodup {L : List (Col κ)} (h : (L.map (·.1)).Nodup) (k : κ) : ((colNew L k).map (·.1)).Nodup := by
 unfold colNew
 by_cases c : L.any (fun q => decide (q.1 = k)) = true
 ·rw [if_pos c]; exact h
 ·rw [if_neg c, List.map_append, List.nodup_append]; refine ⟨h, by simp, fun x hx y hy => ?_⟩; simp only [List.map_cons, List.map_nil, List.mem_singleton] at hy; subst hy; rintro rfl; exact c ((any_key L _).2 hx)
theorem colFold_nodup (key : Ln → κ) : ∀ (l : List Ln) (L : List (Col κ)), (L.map (·.1)).Nodup → ((l.foldl (colStep key) L).map (·.1)).Nodup
 | [], L, h => h
 | x :: l, L, h => colFold_nodup key l _ (by unfold colStep; rw [colPut_keys]; exact colNew_nodup h _)
theorem colsOf_nodup (key : Ln → κ) (l : List Ln) : ((colsOf key l).map (·.1)).Nodup := colFold_nodup key l [] List.nodup_nil
theorem colFold_len (key : Ln → κ) : ∀ (l : List Ln) (L : List (Col κ)) (n : Nat), (∀ q ∈ L, q.2.1.length ≤ n ∧ q.2.2.length ≤ n) → ∀ q ∈ l.foldl (colStep key) L, q.2.1.length ≤ n + l.length ∧ q.2.2.length ≤ n + l.length
 | [], L, n, h => h
 | x :: l, L, n, h => by
  have h1 : ∀ q ∈ colStep key L x, q.2.1.length ≤ n + 1 ∧ q.2.2.length ≤ n + 1 := by
   intro q hq
   unfold colStep colPut at hq
   obtain ⟨q0, hq0, rfl⟩ := List.mem_map.1 hq
   have h2 : q0.2.1.length ≤ n ∧ q0.2.2.length ≤ n := by
    unfold colNew at hq0
    by_cases c : L.any (fun q => decide (q.1 = key x)) = true
    ·rw [if_pos c] at hq0; exact h q0 hq0
    ·rw [if_neg c] at hq0
     rcases List.mem_append.1 hq0 with h3 | h3
     ·exact h q0 h3
     ·simp only [List.mem_singleton] at h3; subst h3; simp
   by_cases c : q0.1 = key x
   ·simp [c]; omega
   ·simp [c]; omega
  intro q hq; have := colFold_len key l _ (n + 1) h1 q hq; simp only [List.length_cons]
  omega
theorem colsOf_len (key : Ln → κ) (l : List Ln) : ∀ q ∈ colsOf key l, q.2.1.length ≤ l.length ∧ q.2.2.length ≤ l.length := by
 intro q hq; have := colFold_len key l [] 0 (by simp) q hq
 omega
theorem colFold_count (key : Ln → κ) : ∀ (l : List Ln) (L : List (Col κ)), (l.foldl (colStep key) L).length ≤ L.length + l.length
 | [], L => Nat.le_refl _
 | x :: l, L => by
  have h := colFold_count key l (colStep key L x)
  have h1 : (colStep key L x).length ≤ L.length + 1 := by
   unfold colStep colPut colNew
   rw [List.length_map]
   split <;> simp
  simp only [List.foldl_cons, List.length_cons]
  omega
theorem colsOf_count (key : Ln → κ) (l : List Ln) : (colsOf key l).length ≤ l.length := by
 have := colFold_count key l []
 simpa [colsOf] using this
theorem colNew_len {L : List (Col κ)} {n : Nat} (h : ∀ q ∈ L, q.2.1.length ≤ n ∧ q.2.2.length ≤ n) (k : κ) : ∀ q ∈ colNew L k, q.2.1.length ≤ n ∧ q.2.2.length ≤ n := by
 intro q hq
 unfold colNew at hq
 by_cases c : L.any (fun q => decide (q.1 = k)) = true
 ·rw [if_pos c] at hq; exact h q hq
 ·rw [if_neg c] at hq
  rcases List.mem_append.1 hq with h3 | h3
  ·exact h q h3
  ·simp only [List.mem_singleton] at h3; subst h3; simp
theorem colNew_any (L : List (Col κ)) (k : κ) : (colNew L k).any (fun q => decide (q.1 = k)) = true := by
 unfold colNew
 by_cases c : L.any (fun q => decide (q.1 = k)) = true
 ·rw [if_pos c]; exact c
 ·rw [if_neg c]; simp
theorem colNew_pos {L : List (Col κ)} {k : κ} (c : L.any (fun q => decide (q.1 = k)) = true) : colNew L k = L := if_pos c
theorem aput_none {ν : Type} (k : κ) (v : ν) : ∀ M : List (κ × ν), aget M k = none → aput M k v = M ++ [(k, v)]
 | [], _ => rfl
 | p :: M, h => by
  unfold aget at h
  unfold aput
  by_cases c : p.1 = k
  ·rw [if_pos c] at h; cases h
  ·rw [if_neg c] at h ⊢; simp [aput_none k v M h]
theorem aget_none {ν : Type} (k : κ) : ∀ M : List (κ × ν), aget M k = none ↔ k ∉ M.map (·.1)
 | [] => by simp [aget]
 | p :: M => by
  unfold aget
  by_cases c : p.1 = k
  ·simp [c]
  ·rw [if_neg c, aget_none k M]; have c2 : ¬ k = p.1 := fun e => c e.symm; simp only [List.map_cons, List.mem_cons, c2, false_or]
theorem aget_at {ν : Type} (k : κ) (v : ν) : ∀ M : List (κ × ν), aget M k = some v → ∃ i : Nat, M[i]? = some (k, v)
 | [], h => by simp [aget] at h
 | p :: M, h => by
  unfold aget at h
  by_cases c : p.1 = k
  ·rw [if_pos c] at h; obtain ⟨p1, p2⟩ := p; simp only at c h; exact ⟨0, by simp_all⟩
  ·rw [if_neg c] at h; obtain ⟨i, hi⟩ := aget_at k v M h; exact ⟨i + 1, by simpa using hi⟩
def ptrV (p : Nat) : Value := .pointer (some ⟨p, 0, none⟩)
def colObj (o : Obj) : Prop := ∃ cs t, o = .cells cs t (0, 0) ∧ (t = 104 ∨ t = 3)
def ColAt (w : World) (base : Nat) (fp : Nat → Nat) (i p : Nat) (am bm : List Int) : Prop :=
 base ≤ p ∧ fp p = 3 * i ∧ ∃ va vb, w.heap[p]? = some (.cells #[va, vb] 104 (0, 0)) ∧ Kd.R (Kd.int .i64) 3 w base (fun g => fp g = 3 * i + 1) va am ∧ Kd.R (Kd.int .i64) 3 w base (fun g => fp g = 3 * i + 2) vb bm
theorem ColAt.move {w w' : World} {base : Nat} {fp : Nat → Nat} {i p : Nat} {am bm : List Int} (h : ColAt w base fp i p am bm) (hm : ∀ g o, w.heap[g]? = some o → colObj o → fp g / 3 = i → w'.heap[g]? = some o) : ColAt w' base fp i p am bm := by
 obtain ⟨h1, h2, va, vb, h3, h4, h5⟩ := h; refine ⟨h1, h2, va, vb, hm p _ h3 ⟨_, _, rfl, .inl rfl⟩ (by omega), kInt_move h4 ?_, kInt_move h5 ?_⟩
 ·intro k hk; obtain ⟨cells, hc⟩ := Kd.R_typed h4 k hk; have h6 : fp k = 3 * i + 1 := h4.1 k hk; rw [hm k _ hc ⟨_, _, rfl, .inr rfl⟩ (by omega), hc]
 ·intro k hk; obtain ⟨cells, hc⟩ := Kd.R_typed h5 k hk; have h6 : fp k = 3 * i + 2 := h5.1 k hk; rw [hm k _ hc ⟨_, _, rfl, .inr rfl⟩ (by omega), hc]
theorem ColAt.owner {w : World} {base : Nat} {fp fp' : Nat → Nat} {i p : Nat} {am bm : List Int} (h : ColAt w base fp i p am bm) (hf : ∀ g, g < w.heap.size → fp' g = fp g) : ColAt w base fp' i p am bm := by
 obtain ⟨h1, h2, va, vb, h3, h4, h5⟩ := h; refine ⟨h1, by rw [hf p (blk_lt h3)]; exact h2, va, vb, h3, kInt_ok h4 ?_, kInt_ok h5 ?_⟩
 ·intro k hk; rw [hf k (Kd.R_lt h4 k hk)]; exact h4.1 k hk
 ·intro k hk; rw [hf k (Kd.R_lt h5 k hk)]; exact h5.1 k hk
def ColsM (ek : κ → Value) (M : List (κ × Nat)) (fp : Nat → Nat) (w : World) (base b : Nat) (L : List (Col κ)) : Prop :=
 MapIs ek ptrV w b M ∧ M.map (·.1) = L.map (·.1) ∧ (L.map (·.1)).Nodup ∧ ∀ i k p am bm, M[i]? = some (k, p) → L[i]? = some (k, am, bm) → ColAt w base fp i p am bm
def ColsIs (ek : κ → Value) (w : World) (base b : Nat) (L : List (Col κ)) : Prop := ∃ M fp, ColsM ek M fp w base b L
variable {ek : κ → Value} {M : List (κ × Nat)} {fp : Nat → Nat} {w w' : World} {base b : Nat} {L : List (Col κ)}
omit [DecidableEq κ] in
theorem ColsM.move (h : ColsM ek M fp w base b L) (hm : ∀ g o, w.heap[g]? = some o → colObj o ∨ g = b → w'.heap[g]? = some o) : ColsM ek M fp w' base b L := by
 obtain ⟨h1, h2, h3, h4⟩ := h; refine ⟨h1.move ?_, h2, h3, fun i k p am bm hi hL => (h4 i k p am bm hi hL).move (fun g o hg ho _ => hm g o hg (.inl ho))⟩; obtain ⟨es, clock, hb, _⟩ := h1; rw [hm b _ hb (.inr rfl), hb]
omit [DecidableEq κ] in
theorem ColsM.below (h : ColsM ek M fp w base b L) (hb : Below w.heap.size w w') : ColsM ek M fp w' base b L := h.move (fun g o hg _ => (hb.block g (blk_lt hg)).trans hg)
omit [DecidableEq κ] in
theorem ColsM.other (h : ColsM ek M fp w base b L) {row : Option Nat} (hg : w.grownBy w' row) (hr : ∀ g, row = some g → ∃ cs t, w.heap[g]? = some (.cells cs t (0, 0)) ∧ t ≠ 104 ∧ t ≠ 3) : ColsM ek M fp w' base b L := by
 obtain ⟨es, clock, hmb, _⟩ := h.1; refine h.move (fun g o hgo hc => ?_); refine (hg.block g (blk_lt hgo) ?_).trans hgo; intro e; obtain ⟨cs, t, h1, h2, h3⟩ := hr g e.symm
 rcases hc with ⟨cs', t', rfl, ht⟩ | rfl
 ·rw [hgo] at h1; injection h1 with h1
  injection h1 with _ h4
  rcases ht with ht | ht
  ·exact h2 (h4.symm.trans ht)
  ·exact h3 (h4.symm.trans ht)
 ·rw [hmb] at h1; cases h1
omit [DecidableEq κ] in
theorem ColsIs.below (h : ColsIs ek w base b L) (hb : Below w.heap.size w w') : ColsIs ek w' base b L := by
 obtain ⟨M, fp, h⟩ := h; exact ⟨M, fp, h.below hb⟩
omit [DecidableEq κ] in
theorem ColsIs.other (h : ColsIs ek w base b L) {row : Option Nat} (hg : w.grownBy w' row) (hr : ∀ g, row = some g → ∃ cs t, w.heap[g]? = some (.cells cs t (0, 0)) ∧ t ≠ 104 ∧ t ≠ 3) : ColsIs ek w' base b L := by
 obtain ⟨M, fp, h⟩ := h; exact ⟨M, fp, h.other hg hr⟩
theorem ColsM.absent (h : ColsM ek M fp w base b L) {k : κ} (hk : L.any (fun q => decide (q.1 = k)) = false) : aget M k = none := by
 rw [aget_none, h.2.1, ← any_key]
 simp [hk]
theorem ColsM.present (h : ColsM ek M fp w base b L) {k : κ} (hk : L.any (fun q => decide (q.1 = k)) = true) : ∃ i p am bm, aget M k = some p ∧ M[i]? = some (k, p) ∧ L[i]? = some (k, am, bm) ∧ ColAt w base fp i p am bm := by
 cases ha : aget M k with
 | none =>
  rw [aget_none, h.2.1, ← any_key] at ha; exact absurd hk ha
 | some p =>
  obtain ⟨i, hi⟩ := aget_at k p M ha; have h1 := congrArg (fun l => l[i]?) h.2.1; simp only [List.getElem?_map, hi, Option.map_some] at h1
  cases hL : L[i]? with
  | none => rw [hL] at h1; cases h1
  | some q =>
   rw [hL] at h1; obtain ⟨q1, am, bm⟩ := q; simp only [Option.map_some, Option.some.injEq] at h1; subst h1; exact ⟨i, p, am, bm, rfl, hi, hL, h.2.2.2 i _ p am bm hi hL⟩
theorem ColsM.new_ (h : ColsM ek M fp w base b L) {k : κ} (hk : L.any (fun q => decide (q.1 = k)) = false) (hbase : base ≤ w.heap.size) (hM2 : MapIs ek ptrV w' b (aput M k w.heap.size)) (hg : (w.alloc (.cells #[.slice none 0 0, .slice none 0 0] 104)).grownBy w' (some b)) : ColsIs ek w' base b (colNew L k) := by
 have ha := h.absent hk; have hlen : M.length = L.length := by have := congrArg List.length h.2.1; simpa using this
 have hblt := h.1.lt; have hcn : colNew L k = L ++ [(k, [], [])] := by unfold colNew; rw [if_neg (by simp [hk])]
 rw [aput_none k _ M ha] at hM2; obtain ⟨F, hF⟩ : ∃ F : Nat → Nat, ∀ g, F g = if g = w.heap.size then 3 * L.length else fp g := ⟨_, fun _ => rfl⟩
 refine ⟨M ++ [(k, w.heap.size)], F, hM2, by rw [hcn]; simp [h.2.1], colNew_nodup h.2.2.1 k, ?_⟩; rw [hcn]
 have hmv : ∀ g o, w.heap[g]? = some o → g ≠ b → w'.heap[g]? = some o := fun g o hgo hne =>
  (hg.block g (by have := blk_lt hgo; simp; omega) (fun e => hne (by injection e))).trans ((Below.heap_alloc w _ g (blk_lt hgo)).trans hgo)
 intro i k' p am bm hi hL
 rcases Nat.lt_or_ge i L.length with hlt | hge
 ·rw [List.getElem?_append_left (by omega)] at hi; rw [List.getElem?_append_left hlt] at hL; refine ((h.2.2.2 i k' p am bm hi hL).owner (fp' := F) (fun g hg2 => by rw [hF, if_neg (by omega)])).move ?_; rintro g o hgo ⟨cs, t, rfl, ht⟩ _; refine hmv g _ hgo ?_; rintro rfl; obtain ⟨es, clock, hb, _⟩ := h.1; rw [hb] at hgo; cases hgo
 ·rw [List.getElem?_append_right (by omega)] at hi; rw [List.getElem?_append_right hge] at hL
  have h0 : i - L.length = 0 := by
   rcases Nat.eq_zero_or_pos (i - L.length) with h0 | h0
   ·exact h0
   ·rw [List.getElem?_eq_none (by simp; omega)] at hL; cases hL
  rw [h0] at hL; rw [hlen, h0] at hi; simp only [List.getElem?_cons_zero, Option.some.injEq, Prod.mk.injEq] at hi hL; obtain ⟨_, rfl⟩ := hi; obtain ⟨_, rfl, rfl⟩ := hL; refine ⟨hbase, by rw [hF, if_pos rfl]; omega, .slice none 0 0, .slice none 0 0, ?_, Kd.R_nil _ _ _ _ _, Kd.R_nil _ _ _ _ _⟩; exact (hg.block w.heap.size (by simp) (fun e => by injection e with e; omega)).trans (blk_new w _)
theorem ColsM.put_ (h : ColsM ek M fp w base b L) {k : κ} {i p : Nat} {am bm : List Int} {va vb va' vb' : Value} {x y : Int} (hi : M[i]? = some (k, p)) (hL : L[i]? = some (k, am, bm)) (hpi : base ≤ p ∧ fp p = 3 * i)
  (hA : Kd.R (Kd.int .i64) 3 w base (fun g => fp g = 3 * i + 1) va am) (hB : Kd.R (Kd.int .i64) 3 w base (fun g => fp g = 3 * i + 2) vb bm) (hp : w.heap[p]? = some (.cells #[va, vb] 104 (0, 0)))
  (hp' : w'.heap[p]? = some (.cells #[va', vb'] 104 (0, 0))) (hA' : Kd.R (Kd.int .i64) 3 w' base (okOwn w va) va' (am ++ [x])) (hB' : Kd.R (Kd.int .i64) 3 w' base (okOwn w vb) vb' (bm ++ [y])) (hne : NeRow va' vb')
  (hk : ∀ g, g < w.heap.size → g ≠ p → some g ≠ va.ownBlock → some g ≠ vb.ownBlock → w'.heap[g]? = w.heap[g]?) : ColsIs ek w' base b (colPut L k x y) := by
 obtain ⟨es, clock, hmb, _⟩ := h.1; have hbp : b ≠ p := by rintro rfl; rw [hp] at hmb; cases hmb
 have hba : some b ≠ va.ownBlock := fun e => by obtain ⟨c, hc⟩ := Kd.R_typed hA b e.symm; rw [hmb] at hc; cases hc
 have hbb : some b ≠ vb.ownBlock := fun e => by obtain ⟨c, hc⟩ := Kd.R_typed hB b e.symm; rw [hmb] at hc; cases hc
 obtain ⟨F, hF⟩ : ∃ F : Nat → Nat, ∀ g, F g = if w.heap.size ≤ g then (if some g = va'.ownBlock then 3 * i + 1 else 3 * i + 2) else fp g := ⟨_, fun _ => rfl⟩
 refine ⟨M, F, h.1.move (hk b h.1.lt hbp hba hbb), by rw [colPut_keys]; exact h.2.1, by rw [colPut_keys]; exact h.2.2.1, ?_⟩; intro j k2 p2 am2 bm2 hj hL2; rw [colPut_at] at hL2
 cases hLj : L[j]? with
 | none => rw [hLj] at hL2; cases hL2
 | some q =>
  rw [hLj] at hL2; simp only [Option.map_some, Option.some.injEq] at hL2
  by_cases hji : j = i
  ·subst hji; rw [hi] at hj; rw [hL] at hLj; simp only [Option.some.injEq, Prod.mk.injEq] at hj hLj; obtain ⟨rfl, rfl⟩ := hj; subst hLj; rw [if_pos rfl] at hL2; simp only [Prod.mk.injEq] at hL2; obtain ⟨_, rfl, rfl⟩ := hL2; have hplt := blk_lt hp; refine ⟨hpi.1, by rw [hF, if_neg (by omega)]; exact hpi.2, va', vb', hp', kInt_ok hA' ?_, kInt_ok hB' ?_⟩
   ·intro g hg; rw [hF]
    by_cases c : w.heap.size ≤ g
    ·rw [if_pos c, if_pos hg.symm]
    ·rw [if_neg c]
     rcases hA'.1 g hg with h1 | h1
     ·exact hA.1 g h1.symm
     ·exact absurd h1 c
   ·intro g hg; rw [hF]
    by_cases c : w.heap.size ≤ g
    ·rw [if_pos c, if_neg (fun e => hne g e.symm hg)]
    ·rw [if_neg c]
     rcases hB'.1 g hg with h1 | h1
     ·exact hB.1 g h1.symm
     ·exact absurd h1 c
  ·have hkne : q.1 ≠ k := by
    intro e; have h1 : (L.map (·.1))[j]? = some k := by rw [List.getElem?_map, hLj]; simp [e]
    have h2 : (L.map (·.1))[i]? = some k := by rw [List.getElem?_map, hL]; rfl
    have hjl := (List.getElem?_eq_some_iff.1 h1).1; exact hji ((List.getElem?_inj hjl h.2.2.1).1 (h1.trans h2.symm))
   rw [if_neg hkne] at hL2; subst hL2; refine ((h.2.2.2 j k2 p2 am2 bm2 hj hLj).owner (fp' := F) (fun g hg2 => by rw [hF, if_neg (by omega)])).move ?_; intro g o hgo ho hfg; have hlt := blk_lt hgo; rw [hF, if_neg (by omega)] at hfg; refine (hk g hlt ?_ ?_ ?_).trans hgo
   ·rintro rfl; omega
   ·intro e; have := hA.1 g e.symm; omega
   ·intro e; have := hB.1 g e.symm; omega
theorem own_col {e : Nat} {sz n base' : Nat} {v : Value} {xs : List Value} {p : Nat} {va vb : Value} {am bm : List Int} {oka okb : Nat → Prop} (ho : w.ownsRow base' e sz v n xs) (he : e ≠ 104 ∧ e ≠ 3) (hp : w.heap[p]? = some (.cells #[va, vb] 104 (0, 0)))
  (hA : Kd.R (Kd.int .i64) 3 w base oka va am) (hB : Kd.R (Kd.int .i64) 3 w base okb vb bm) (hk : ∀ g, g < w.heap.size → g ≠ p → some g ≠ va.ownBlock → some g ≠ vb.ownBlock → w'.heap[g]? = w.heap[g]?) : ∀ k, v.ownBlock = some k → w'.heap[k]? = w.heap[k]? := by
 intro k hk2; obtain ⟨cells, hc⟩ := own_typed ho k hk2; refine hk k (blk_lt hc) ?_ (ne_of_typed hA hc he.2) (ne_of_typed hB hc he.2); rintro rfl; rw [hp] at hc; injection hc with hc
 injection hc with _ h2
 exact he.1 h2.symm
theorem own_map {e : Nat} {sz n base' : Nat} {v : Value} {xs : List Value} {κ' : Type} {ek' : κ' → Value} {ν : Type} {ev : ν → Value} {M' : List (κ' × ν)} (ho : w.ownsRow base' e sz v n xs) (hM : MapIs ek' ev w b M') (hg : w.grownBy w' (some b)) : ∀ k, v.ownBlock = some k → w'.heap[k]? = w.heap[k]? := by
 intro k hk2; obtain ⟨cells, hc⟩ := own_typed ho k hk2; refine hg.block k (blk_lt hc) ?_; intro e1; injection e1 with e1
 subst e1; obtain ⟨es, clock, hb, _⟩ := hM; rw [hb] at hc; cases hc
theorem ne_cols {fp : Nat → Nat} {i base : Nat} {va vb : Value} {am bm : List Int} (hA : Kd.R (Kd.int .i64) 3 w base (fun g => fp g = 3 * i + 1) va am) (hB : Kd.R (Kd.int .i64) 3 w base (fun g => fp g = 3 * i + 2) vb bm) : NeRow va vb := by
 intro k h1 h2; have := hA.1 k h1; have := hB.1 k h2
 omega
omit [DecidableEq κ] in
theorem ColsIs_made (ek : κ → Value) (w : World) (base : Nat) : ColsIs ek (w.alloc (.map #[] 0)) base w.heap.size ([] : List (Col κ)) :=
 ⟨[], fun _ => 0, MapIs_made ek ptrV w, rfl, List.nodup_nil, fun i k p am bm h _ => by simp at h⟩
end
end Go.Proofs.YtjeecehhcajfaaaDoor.M
end
