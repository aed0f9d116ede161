/- The law of the products, walked and shown. Part 3 of 5 of what is the claim's own. -/
import Derived.Test.YtoppdlideonjjaaQBE1
import Derived.Test.YtoppdlideonjjaaQBE5
import Derived.Test.YtoppdlideonjjaaQBE4
import Derived.Test.YtoppdlideonjjaaQOw1
import Derived.Test.YtoppdlideonjjaaQOw2
import Derived.SizedLaws
import Derived.ChangeArms
import Derived.ChangeShapes
import Derived.DataReads
import Derived.Test.YtoppdlideonjjaaQBE2
import Derived.Laws.Closers25b
import Derived.Laws.BitsLemmas
import Derived.RowKit
import Derived.Test.YtoppdlideonjjaaQBE3
section
-- Written by mprint.py (a program of this session) over the kit's print.
namespace Go.Proofs.Ytoppdlideonjjaa.M
open Go.RowKit Go.Proofs.YtoppdlideonjjaaW.PrintWords Go.Proofs.YtoppdlideonjjaaW.PrintLast Go.Proofs.YtoppdlideonjjaaW.PrintMore
attribute [local go_sem] max2_int min2_int max_two min_two max_three min_three max_four min_four   -- for this text's walks alone
set_option linter.unusedVariables false
set_option linter.unusedSimpArgs false

/-! ### accountingref32_SameAll: function 27 -/
def accountingref32_SameAll.l0 : Nat → List (S24) → List (S24) → Int → Option (Bool)
  | 0, _, _, _ => none
  | k + 1, x0, x1, x5 => if x5 < (x0.length : Int) then (if 0 ≤ x5 then (if x5 < (x1.length : Int) then ((accountingref32_Same.f k ((rd_T24 x0 x5).f0) ((rd_T24 x0 x5).f1) ((rd_T24 x0 x5).f2) ((rd_T24 x0 x5).f3) ((rd_T24 x0 x5).f4) ((rd_T24 x1 x5).f0) ((rd_T24 x1 x5).f1) ((rd_T24 x1 x5).f2) ((rd_T24 x1 x5).f3) ((rd_T24 x1 x5).f4)).bind fun t103 => (if t103 = true then (accountingref32_SameAll.l0 k x0 x1 (wrap64 (x5 + 1))) else (some false))) else (none)) else (none)) else (some true)
def accountingref32_SameAll.f (k : Nat) (l0 : List (S24)) (l1 : List (S24)) : Option (Bool) := if (l0.length : Int) = (l1.length : Int) then (accountingref32_SameAll.l0 k l0 l1 0) else (some false)
theorem accountingref32_SameAll.mono_l : ∀ k, (∀ y0 y1 y2, LeO (accountingref32_SameAll.l0 k y0 y1 y2) (accountingref32_SameAll.l0 (k + 1) y0 y1 y2))
  | 0 => fun _ _ _ r h => by simp [accountingref32_SameAll.l0] at h
  | k + 1 => by
    have ih0 := accountingref32_SameAll.mono_l k
    · intro y0 y1 y2
      unfold accountingref32_SameAll.l0
      repeat' first
      | (with_reducible exact ih0 _ _ _)
      | (with_reducible exact accountingref32_Same.mono _ _ _ _ _ _ _ _ _ _ _)
      | (with_reducible exact LeO.refl _)
      | (with_reducible exact LeO.none _)
      | (with_reducible refine LeO.ite ?_ ?_)
      | (with_reducible refine LeO.bind ?_ (fun _ => ?_))
      | exact ih0 _ _ _
      | exact accountingref32_Same.mono _ _ _ _ _ _ _ _ _ _ _
      | exact LeO.none _
      | refine LeO.ite ?_ ?_
      | refine LeO.bind ?_ (fun _ => ?_)
theorem accountingref32_SameAll.mono : ∀ a0 a1 k, LeO (accountingref32_SameAll.f k a0 a1) (accountingref32_SameAll.f (k + 1) a0 a1) := by
 intro a0 a1 k
 have ih0 := accountingref32_SameAll.mono_l k
 unfold accountingref32_SameAll.f
 repeat' first
   | (with_reducible exact ih0 _ _ _)
   | (with_reducible exact accountingref32_Same.mono _ _ _ _ _ _ _ _ _ _ _)
   | (with_reducible exact LeO.refl _)
   | (with_reducible exact LeO.none _)
   | (with_reducible refine LeO.ite ?_ ?_)
   | (with_reducible refine LeO.bind ?_ (fun _ => ?_))
   | exact ih0 _ _ _
   | exact accountingref32_Same.mono _ _ _ _ _ _ _ _ _ _ _
   | exact LeO.none _
   | refine LeO.ite ?_ ?_
   | refine LeO.bind ?_ (fun _ => ?_)
def accountingref32_SameAll.T6 : Bool × List (List Nat × List Nat) := (true, [([], []), ([], []), ([0, 1], [0, 1]), ([2], [2]), ([], []), ([], []), ([4, 5], [4, 5]), ([6], [6]), ([3, 7], [3, 7]), ([8], [8])])
def accountingref32_SameAll.B6 : List Nat := [0, 0, 3, 7, 0, 0, 48, 112, 255, 511]
theorem accountingref32_SameAll.tab6 : rtab .any (opsOf Try.f27 6) = accountingref32_SameAll.T6 := by kernel_rfl
theorem accountingref32_SameAll.bits6 : waitsOk accountingref32_SameAll.T6.2 accountingref32_SameAll.B6 = true := by kernel_rfl
set_option maxHeartbeats 8000000 in
set_option maxRecDepth 100000 in
theorem accountingref32_SameAll.calls (k : Nat) (A0 : Option Addr) (c0 : Nat) (l0 : List (S24)) (A1 : Option Addr) (c1 : Nat) (l1 : List (S24)) (r : Bool) (w : World) (hr0 : Kd.C k24 w A0 l0.length l0) (hc0 : l0.length ≤ c0) (hr1 : Kd.C k24 w A1 l1.length l1) (hc1 : l1.length ≤ c1) (h : accountingref32_SameAll.f k l0 l1 = some r) :
    Calls Try.prog 27 #[.slice A0 l0.length c0, .slice A1 l1.length c1] w fun e w' => e = .returned (.bool r) ∧ Below w.heap.size w w' := by
 have hu24 := Try.underlying24
 have HR0 := Aside0.mk hr0
 have HC0 := Aside0.mk hc0
 clear hr0 hc0
 have HR1 := Aside0.mk hr1
 have HC1 := Aside0.mk hc1
 clear hr1 hc1
 have HB := Aside0.mk (Below.refl w.heap.size w)
 have H : (if (l0.length : Int) = (l1.length : Int) then (accountingref32_SameAll.l0 k l0 l1 0) else (some false)) = some r := h
 clear h
 by_cases c3 : (l0.length : Int) = (l1.length : Int)
 ·rw [if_pos c3] at H
  have c3b0 : ((l0.length : Int) == (l1.length : Int)) = true := beq_iff_eq.mpr c3
  have c3b1 : ((l0.length : Int) != (l1.length : Int)) = false := bne_eq_false_iff_eq.mpr c3
  have c3b2 : (l0.length == l1.length) = true := by first | simpa using c3 | (simp at c3 ⊢; omega)
  clear c3
  have H' := Aside0.mk H
  clear H
  go_enter Try.func27, Try.ntmps27
  go_wp2
  go_loopg [5] k (fun kq v5 w' => ∃ (x5_1 : Int), v5 = .int .i64 x5_1 ∧ Aside0 (accountingref32_SameAll.l0 kq l0 l1 x5_1 = some r) ∧ Aside0 (kq ≤ k) ∧ Aside0 (Below w.heap.size w w'))
  case atStart => exact ⟨(0), (by first | rfl | (simp; done) | (simp [*]; done)), H', ⟨Nat.le_refl _⟩, ⟨by repeat (first | (with_reducible first | exact HB.out | apply below_alloc | apply pw_below_drewN | apply below_drew1) | exact HB.out)⟩⟩
  case round =>
   clear H'
   try clear c1
   try clear c2
   try clear p2
   try clear c3
   try clear c3b0
   try clear c3b1
   try clear c3b2
   obtain ⟨x5_1, rfl, HA, HK1, HB⟩ := hrel
   cases gk with
   | zero => exact absurd HA.out (by simp [accountingref32_SameAll.l0])
   | succ k1 =>
    have H := HA.out
    clear HA
    simp only [accountingref32_SameAll.l0] at H
    by_cases c4 : x5_1 < (l0.length : Int)
    ·rw [if_pos c4] at H
     have c4b0 : decide (x5_1 < (l0.length : Int)) = true := decide_eq_true c4
     clear c4
     by_cases c5 : 0 ≤ x5_1
     ·rw [if_pos c5] at H
      have c5b0 : decide (0 ≤ x5_1) = true := decide_eq_true c5
      clear c5
      by_cases c6 : x5_1 < (l1.length : Int)
      ·rw [if_pos c6] at H
       have c6b0 : decide (x5_1 < (l1.length : Int)) = true := decide_eq_true c6
       clear c6
       replace H := Option.bind_eq_some_iff.mp H
       obtain ⟨t103, A70, H⟩ := H
       replace H : (if t103 = true then (accountingref32_SameAll.l0 k1 l0 l1 (wrap64 (x5_1 + 1))) else (some false)) = some r := H
       have A7 := Aside0.mk A70
       clear A70
       by_cases c8 : t103 = true
       ·subst c8
        have H1 : (accountingref32_SameAll.l0 k1 l0 l1 (wrap64 (x5_1 + 1))) = some r := by rw [if_pos rfl] at H; exact H
        clear H
        have H := H1
        clear H1
        have H' := Aside0.mk H
        clear H
        try go_wp2
        have n0_ := Aside0.mk (below_drew1 HB.out)
        clear HB
        have HB := n0_
        clear n0_
        have p101 : 0 ≤ (x5_1 : Int) := of_decide_eq_true (by first | (with_reducible assumption) | assumption)
        have q101 : x5_1 < (l0.length : Int) := of_decide_eq_true (by first | (with_reducible assumption) | assumption)
        obtain ⟨ad101, A101_4, c101_4, e101, hx101_0, hx101_1, hx101_2, hx101_3, hx101_4, hl101_4, hi101_4⟩ := at_T24 HR0.out x5_1 p101 q101
        have hw101_4 := hx101_4
        have hw101_3 := hx101_3
        have hw101_2 := hx101_2
        have hw101_1 := hx101_1
        have hw101_0 := hx101_0
        cases e101
        replace hx101_0 := (HB.out.cell (World.block_lt_of_cell? w _ hx101_0)).trans hx101_0
        replace hx101_1 := (HB.out.cell (World.block_lt_of_cell? w _ hx101_1)).trans hx101_1
        replace hx101_2 := (HB.out.cell (World.block_lt_of_cell? w _ hx101_2)).trans hx101_2
        replace hx101_3 := (HB.out.cell (World.block_lt_of_cell? w _ hx101_3)).trans hx101_3
        replace hx101_4 := (HB.out.cell (World.block_lt_of_cell? w _ hx101_4)).trans hx101_4
        have HR101_4 := Aside0.mk hi101_4
        have HC101_4 := Aside0.mk hl101_4
        clear hi101_4 hl101_4
        replace p101 := eq_true p101
        replace q101 := eq_true q101
        have p102 : 0 ≤ (x5_1 : Int) := of_decide_eq_true (by first | (with_reducible assumption) | assumption)
        have q102 : x5_1 < (l1.length : Int) := of_decide_eq_true (by first | (with_reducible assumption) | assumption)
        obtain ⟨ad102, A102_4, c102_4, e102, hx102_0, hx102_1, hx102_2, hx102_3, hx102_4, hl102_4, hi102_4⟩ := at_T24 HR1.out x5_1 p102 q102
        have hw102_4 := hx102_4
        have hw102_3 := hx102_3
        have hw102_2 := hx102_2
        have hw102_1 := hx102_1
        have hw102_0 := hx102_0
        cases e102
        replace hx102_0 := (HB.out.cell (World.block_lt_of_cell? w _ hx102_0)).trans hx102_0
        replace hx102_1 := (HB.out.cell (World.block_lt_of_cell? w _ hx102_1)).trans hx102_1
        replace hx102_2 := (HB.out.cell (World.block_lt_of_cell? w _ hx102_2)).trans hx102_2
        replace hx102_3 := (HB.out.cell (World.block_lt_of_cell? w _ hx102_3)).trans hx102_3
        replace hx102_4 := (HB.out.cell (World.block_lt_of_cell? w _ hx102_4)).trans hx102_4
        have HR102_4 := Aside0.mk hi102_4
        have HC102_4 := Aside0.mk hl102_4
        clear hi102_4 hl102_4
        replace p102 := eq_true p102
        replace q102 := eq_true q102
        refine start_ (n := 10) (S := fun w' => w'.cell? (ad101.add ((x5_1).toNat * 5)) = some (.string ((rd_T24 l0 x5_1).f0)) ∧ w'.cell? ⟨(ad101.add ((x5_1).toNat * 5)).block, (ad101.add ((x5_1).toNat * 5)).off + 1, none⟩ = some (.string ((rd_T24 l0 x5_1).f1)) ∧ w'.cell? ⟨(ad101.add ((x5_1).toNat * 5)).block, (ad101.add ((x5_1).toNat * 5)).off + 2, none⟩ = some (.int .i64 ((rd_T24 l0 x5_1).f2)) ∧ w'.cell? ⟨(ad101.add ((x5_1).toNat * 5)).block, (ad101.add ((x5_1).toNat * 5)).off + 3, none⟩ = some (.int .i64 ((rd_T24 l0 x5_1).f3)) ∧ w'.cell? ⟨(ad101.add ((x5_1).toNat * 5)).block, (ad101.add ((x5_1).toNat * 5)).off + 4, none⟩ = some (.slice A101_4 ((rd_T24 l0 x5_1).f4).length c101_4) ∧ w'.cell? (ad102.add ((x5_1).toNat * 5)) = some (.string ((rd_T24 l1 x5_1).f0)) ∧ w'.cell? ⟨(ad102.add ((x5_1).toNat * 5)).block, (ad102.add ((x5_1).toNat * 5)).off + 1, none⟩ = some (.string ((rd_T24 l1 x5_1).f1)) ∧ w'.cell? ⟨(ad102.add ((x5_1).toNat * 5)).block, (ad102.add ((x5_1).toNat * 5)).off + 2, none⟩ = some (.int .i64 ((rd_T24 l1 x5_1).f2)) ∧ w'.cell? ⟨(ad102.add ((x5_1).toNat * 5)).block, (ad102.add ((x5_1).toNat * 5)).off + 3, none⟩ = some (.int .i64 ((rd_T24 l1 x5_1).f3)) ∧ w'.cell? ⟨(ad102.add ((x5_1).toNat * 5)).block, (ad102.add ((x5_1).toNat * 5)).off + 4, none⟩ = some (.slice A102_4 ((rd_T24 l1 x5_1).f4).length c102_4)) (ds := []) #[false, false, false, false, false, false, false, false, false, false] (by kernel_rfl) rfl rfl ⟨((HB.out.cell (World.block_lt_of_cell? w _ hw101_0)).trans hw101_0), ((HB.out.cell (World.block_lt_of_cell? w _ hw101_1)).trans hw101_1), ((HB.out.cell (World.block_lt_of_cell? w _ hw101_2)).trans hw101_2), ((HB.out.cell (World.block_lt_of_cell? w _ hw101_3)).trans hw101_3), ((HB.out.cell (World.block_lt_of_cell? w _ hw101_4)).trans hw101_4), ((HB.out.cell (World.block_lt_of_cell? w _ hw102_0)).trans hw102_0), ((HB.out.cell (World.block_lt_of_cell? w _ hw102_1)).trans hw102_1), ((HB.out.cell (World.block_lt_of_cell? w _ hw102_2)).trans hw102_2), ((HB.out.cell (World.block_lt_of_cell? w _ hw102_3)).trans hw102_3), ((HB.out.cell (World.block_lt_of_cell? w _ hw102_4)).trans hw102_4)⟩ (fun hHeld => ?_); refine with_tabW accountingref32_SameAll.tab6 accountingref32_SameAll.bits6 (fun HT_ HW_ => ?_)
        generalize wr.drew = w9 at HB HR101_4 HR102_4 hx101_0 hx101_1 hx101_2 hx101_3 hx101_4 hx102_0 hx102_1 hx102_2 hx102_3 hx102_4 hHeld ⊢
        refine pure_ (i := 0) (N := some 17) (v := ?_) (a' := ?_) #[true, false, false, false, false, false, false, false, false, false] rfl rfl (any_of HT_.out (by kernel_rfl)) (fun _ _ _ h => h) (Or.inl ⟨by rfl, ?_⟩) ?_ ?_
        rotate_left
        ·intro w'
         go_simp
         with_reducible rfl
        rotate_left
        ·simp only [Act.put, List.setIfInBounds_toArray, List.set_cons_zero, List.set_cons_succ, i64_w, i32_w]
         rfl
        refine pure_ (i := 1) (N := some 18) (v := ?_) (a' := ?_) #[true, true, false, false, false, false, false, false, false, false] rfl rfl (any_of HT_.out (by kernel_rfl)) (fun _ _ _ h => h) (Or.inl ⟨by rfl, ?_⟩) ?_ ?_
        rotate_left
        ·intro w'
         go_simp
         with_reducible rfl
        rotate_left
        ·simp only [Act.put, List.setIfInBounds_toArray, List.set_cons_zero, List.set_cons_succ, i64_w, i32_w]
         rfl
        refine pure_ (i := 2) (N := some 19) (v := ?_) (a' := ?_) #[true, true, true, false, false, false, false, false, false, false] rfl rfl (any_of HT_.out (by kernel_rfl)) (fun _ _ _ h => h) (Or.inl ⟨by rfl, ?_⟩) ?_ ?_
        rotate_left
        ·intro w'
         go_simp
         with_reducible rfl
        rotate_left
        ·simp only [Act.put, List.setIfInBounds_toArray, List.set_cons_zero, List.set_cons_succ, i64_w, i32_w]
         rfl
        refine pure_ (i := 4) (N := some 21) (v := ?_) (a' := ?_) #[true, true, true, false, true, false, false, false, false, false] rfl rfl (any_of HT_.out (by kernel_rfl)) (fun _ _ _ h => h) (Or.inl ⟨by rfl, ?_⟩) ?_ ?_
        rotate_left
        ·intro w'
         go_simp
         with_reducible rfl
        rotate_left
        ·simp only [Act.put, List.setIfInBounds_toArray, List.set_cons_zero, List.set_cons_succ, i64_w, i32_w]
         rfl
        refine pure_ (i := 5) (N := some 22) (v := ?_) (a' := ?_) #[true, true, true, false, true, true, false, false, false, false] rfl rfl (any_of HT_.out (by kernel_rfl)) (fun _ _ _ h => h) (Or.inl ⟨by rfl, ?_⟩) ?_ ?_
        rotate_left
        ·intro w'
         go_simp
         with_reducible rfl
        rotate_left
        ·simp only [Act.put, List.setIfInBounds_toArray, List.set_cons_zero, List.set_cons_succ, i64_w, i32_w]
         rfl
        refine pure_ (i := 6) (N := some 23) (v := ?_) (a' := ?_) #[true, true, true, false, true, true, true, false, false, false] rfl rfl (any_of HT_.out (by kernel_rfl)) (fun _ _ _ h => h) (Or.inl ⟨by rfl, ?_⟩) ?_ ?_
        rotate_left
        ·intro w'
         go_simp
         with_reducible rfl
        rotate_left
        ·simp only [Act.put, List.setIfInBounds_toArray, List.set_cons_zero, List.set_cons_succ, i64_w, i32_w]
         rfl
        refine take_ (i := 3) (N := some 20) (v := ?_) (a' := ?_) #[true, true, true, true, true, true, true, false, false, false] rfl rfl (take_ofW HT_.out HW_.out (by kernel_rfl)) (fun _ _ _ h => h) (Or.inl ⟨by rfl, ?_⟩) hHeld ?_ ?_
        rotate_left
        ·rintro w' ⟨s0, s1, s2, s3, s4, s5, s6, s7, s8, s9⟩
         go_simp
         with_reducible rfl
        rotate_left
        ·simp only [Act.put, List.setIfInBounds_toArray, List.set_cons_zero, List.set_cons_succ, i64_w, i32_w]
         rfl
        refine take_ (i := 7) (N := some 24) (v := ?_) (a' := ?_) #[true, true, true, true, true, true, true, true, false, false] rfl rfl (take_ofW HT_.out HW_.out (by kernel_rfl)) (fun _ _ _ h => h) (Or.inl ⟨by rfl, ?_⟩) hHeld ?_ ?_
        rotate_left
        ·rintro w' ⟨s0, s1, s2, s3, s4, s5, s6, s7, s8, s9⟩
         go_simp
         with_reducible rfl
        rotate_left
        ·simp only [Act.put, List.setIfInBounds_toArray, List.set_cons_zero, List.set_cons_succ, i64_w, i32_w]
         rfl
        refine one_ (i := 8) (N := some 25) #[true, true, true, true, true, true, true, true, true, false] rfl rfl (one_of HT_.out (by kernel_rfl)) (by decide) (fun K hK => ?_)
        refine goes_ Try.func26 (by kernel_rfl) rfl #[.agg #[.string ((rd_T24 l0 x5_1).f0), .string ((rd_T24 l0 x5_1).f1), .int .i64 ((rd_T24 l0 x5_1).f2), .int .i64 ((rd_T24 l0 x5_1).f3), .slice A101_4 ((rd_T24 l0 x5_1).f4).length c101_4], .agg #[.string ((rd_T24 l1 x5_1).f0), .string ((rd_T24 l1 x5_1).f1), .int .i64 ((rd_T24 l1 x5_1).f2), .int .i64 ((rd_T24 l1 x5_1).f3), .slice A102_4 ((rd_T24 l1 x5_1).f4).length c102_4]] (by rfl) rfl rfl (by (try simp only [List.map_toArray, List.map_cons, List.map_nil]); first | done | rfl | (simp only [List.length_drop, List.length_take]; rfl)) ?_
        with_reducible refine (accountingref32_Same.calls k1 ((rd_T24 l0 x5_1).f0) ((rd_T24 l0 x5_1).f1) ((rd_T24 l0 x5_1).f2) ((rd_T24 l0 x5_1).f3) _ _ ((rd_T24 l0 x5_1).f4) ((rd_T24 l1 x5_1).f0) ((rd_T24 l1 x5_1).f1) ((rd_T24 l1 x5_1).f2) ((rd_T24 l1 x5_1).f3) _ _ ((rd_T24 l1 x5_1).f4) true _ ?side1 ?side2 ?side3 ?side4 A7.out).mono ?_
        (case side1 => repeat (first | exact (Kd.C_below HR101_4.out HB.out) | (with_reducible refine Kd.C_alloc ?_ _) | (with_reducible refine Kd.C_drewN ?_ _) | (with_reducible refine Kd.C_drew ?_)))
        (case side2 => exact HC101_4.out)
        (case side3 => repeat (first | exact (Kd.C_below HR102_4.out HB.out) | (with_reducible refine Kd.C_alloc ?_ _) | (with_reducible refine Kd.C_drewN ?_ _) | (with_reducible refine Kd.C_drew ?_)))
        (case side4 => exact HC102_4.out)
        rintro e w10 ⟨rfl, hb⟩
        refine ⟨_, rfl, ?_⟩
        have n0_ := Aside0.mk (below_step (by repeat (first | (with_reducible first | exact HB.out | apply below_alloc | apply pw_below_drewN | apply below_drew1) | exact HB.out)) hb)
        clear HB
        have HB := n0_
        clear n0_
        (try clear hb)
        (try clear hb2)
        (try clear hk)
        (try clear hi)
        refine hK.out _ _ ⟨((HB.out.cell (World.block_lt_of_cell? w _ hw101_0)).trans hw101_0), ((HB.out.cell (World.block_lt_of_cell? w _ hw101_1)).trans hw101_1), ((HB.out.cell (World.block_lt_of_cell? w _ hw101_2)).trans hw101_2), ((HB.out.cell (World.block_lt_of_cell? w _ hw101_3)).trans hw101_3), ((HB.out.cell (World.block_lt_of_cell? w _ hw101_4)).trans hw101_4), ((HB.out.cell (World.block_lt_of_cell? w _ hw102_0)).trans hw102_0), ((HB.out.cell (World.block_lt_of_cell? w _ hw102_1)).trans hw102_1), ((HB.out.cell (World.block_lt_of_cell? w _ hw102_2)).trans hw102_2), ((HB.out.cell (World.block_lt_of_cell? w _ hw102_3)).trans hw102_3), ((HB.out.cell (World.block_lt_of_cell? w _ hw102_4)).trans hw102_4)⟩ (fun hHeld => ?_)
        clear hK K
        refine norm_ (a' := ?_) ?_ ?_
        rotate_left
        ·show Act.put _ (some 25) _ = _
         simp only [Act.put, List.setIfInBounds_toArray, List.set_cons_zero, List.set_cons_succ, i64_w, i32_w]
         rfl
        refine pure_ (i := 9) (N := some 26) (v := ?_) (a' := ?_) #[true, true, true, true, true, true, true, true, true, true] rfl rfl (any_of HT_.out (by kernel_rfl)) (fun _ _ _ h => h) (Or.inl ⟨by rfl, ?_⟩) ?_ ?_
        rotate_left
        ·intro w'
         go_simp
         with_reducible rfl
        rotate_left
        ·simp only [Act.put, List.setIfInBounds_toArray, List.set_cons_zero, List.set_cons_succ, i64_w, i32_w]
         rfl
        refine done_ (done_of HT_.out (by kernel_rfl)) ?_
        try go_wp2
        go_roundg k1
        case measure => have := HK1.out; omega
        case rel => exact ⟨(wrap64 (x5_1 + 1)), (by first | rfl | (simp; done) | (simp [*]; done)), H', ⟨by have := HK1.out; omega⟩, ⟨by repeat (first | (with_reducible first | exact HB.out | apply below_alloc | apply pw_below_drewN | apply below_drew1) | exact HB.out)⟩⟩
       ·replace c8 := Bool.eq_false_iff.mpr c8
        subst c8
        have H1 : (some false) = some r := by rw [if_neg (show ¬ (false = true) by decide)] at H; exact H
        clear H
        have H := H1
        clear H1
        obtain rfl := Option.some.inj H
        try go_wp2
        have n0_ := Aside0.mk (below_drew1 HB.out)
        clear HB
        have HB := n0_
        clear n0_
        have p101 : 0 ≤ (x5_1 : Int) := of_decide_eq_true (by first | (with_reducible assumption) | assumption)
        have q101 : x5_1 < (l0.length : Int) := of_decide_eq_true (by first | (with_reducible assumption) | assumption)
        obtain ⟨ad101, A101_4, c101_4, e101, hx101_0, hx101_1, hx101_2, hx101_3, hx101_4, hl101_4, hi101_4⟩ := at_T24 HR0.out x5_1 p101 q101
        have hw101_4 := hx101_4
        have hw101_3 := hx101_3
        have hw101_2 := hx101_2
        have hw101_1 := hx101_1
        have hw101_0 := hx101_0
        cases e101
        replace hx101_0 := (HB.out.cell (World.block_lt_of_cell? w _ hx101_0)).trans hx101_0
        replace hx101_1 := (HB.out.cell (World.block_lt_of_cell? w _ hx101_1)).trans hx101_1
        replace hx101_2 := (HB.out.cell (World.block_lt_of_cell? w _ hx101_2)).trans hx101_2
        replace hx101_3 := (HB.out.cell (World.block_lt_of_cell? w _ hx101_3)).trans hx101_3
        replace hx101_4 := (HB.out.cell (World.block_lt_of_cell? w _ hx101_4)).trans hx101_4
        have HR101_4 := Aside0.mk hi101_4
        have HC101_4 := Aside0.mk hl101_4
        clear hi101_4 hl101_4
        replace p101 := eq_true p101
        replace q101 := eq_true q101
        have p102 : 0 ≤ (x5_1 : Int) := of_decide_eq_true (by first | (with_reducible assumption) | assumption)
        have q102 : x5_1 < (l1.length : Int) := of_decide_eq_true (by first | (with_reducible assumption) | assumption)
        obtain ⟨ad102, A102_4, c102_4, e102, hx102_0, hx102_1, hx102_2, hx102_3, hx102_4, hl102_4, hi102_4⟩ := at_T24 HR1.out x5_1 p102 q102
        have hw102_4 := hx102_4
        have hw102_3 := hx102_3
        have hw102_2 := hx102_2
        have hw102_1 := hx102_1
        have hw102_0 := hx102_0
        cases e102
        replace hx102_0 := (HB.out.cell (World.block_lt_of_cell? w _ hx102_0)).trans hx102_0
        replace hx102_1 := (HB.out.cell (World.block_lt_of_cell? w _ hx102_1)).trans hx102_1
        replace hx102_2 := (HB.out.cell (World.block_lt_of_cell? w _ hx102_2)).trans hx102_2
        replace hx102_3 := (HB.out.cell (World.block_lt_of_cell? w _ hx102_3)).trans hx102_3
        replace hx102_4 := (HB.out.cell (World.block_lt_of_cell? w _ hx102_4)).trans hx102_4
        have HR102_4 := Aside0.mk hi102_4
        have HC102_4 := Aside0.mk hl102_4
        clear hi102_4 hl102_4
        replace p102 := eq_true p102
        replace q102 := eq_true q102
        refine start_ (n := 10) (S := fun w' => w'.cell? (ad101.add ((x5_1).toNat * 5)) = some (.string ((rd_T24 l0 x5_1).f0)) ∧ w'.cell? ⟨(ad101.add ((x5_1).toNat * 5)).block, (ad101.add ((x5_1).toNat * 5)).off + 1, none⟩ = some (.string ((rd_T24 l0 x5_1).f1)) ∧ w'.cell? ⟨(ad101.add ((x5_1).toNat * 5)).block, (ad101.add ((x5_1).toNat * 5)).off + 2, none⟩ = some (.int .i64 ((rd_T24 l0 x5_1).f2)) ∧ w'.cell? ⟨(ad101.add ((x5_1).toNat * 5)).block, (ad101.add ((x5_1).toNat * 5)).off + 3, none⟩ = some (.int .i64 ((rd_T24 l0 x5_1).f3)) ∧ w'.cell? ⟨(ad101.add ((x5_1).toNat * 5)).block, (ad101.add ((x5_1).toNat * 5)).off + 4, none⟩ = some (.slice A101_4 ((rd_T24 l0 x5_1).f4).length c101_4) ∧ w'.cell? (ad102.add ((x5_1).toNat * 5)) = some (.string ((rd_T24 l1 x5_1).f0)) ∧ w'.cell? ⟨(ad102.add ((x5_1).toNat * 5)).block, (ad102.add ((x5_1).toNat * 5)).off + 1, none⟩ = some (.string ((rd_T24 l1 x5_1).f1)) ∧ w'.cell? ⟨(ad102.add ((x5_1).toNat * 5)).block, (ad102.add ((x5_1).toNat * 5)).off + 2, none⟩ = some (.int .i64 ((rd_T24 l1 x5_1).f2)) ∧ w'.cell? ⟨(ad102.add ((x5_1).toNat * 5)).block, (ad102.add ((x5_1).toNat * 5)).off + 3, none⟩ = some (.int .i64 ((rd_T24 l1 x5_1).f3)) ∧ w'.cell? ⟨(ad102.add ((x5_1).toNat * 5)).block, (ad102.add ((x5_1).toNat * 5)).off + 4, none⟩ = some (.slice A102_4 ((rd_T24 l1 x5_1).f4).length c102_4)) (ds := []) #[false, false, false, false, false, false, false, false, false, false] (by kernel_rfl) rfl rfl ⟨((HB.out.cell (World.block_lt_of_cell? w _ hw101_0)).trans hw101_0), ((HB.out.cell (World.block_lt_of_cell? w _ hw101_1)).trans hw101_1), ((HB.out.cell (World.block_lt_of_cell? w _ hw101_2)).trans hw101_2), ((HB.out.cell (World.block_lt_of_cell? w _ hw101_3)).trans hw101_3), ((HB.out.cell (World.block_lt_of_cell? w _ hw101_4)).trans hw101_4), ((HB.out.cell (World.block_lt_of_cell? w _ hw102_0)).trans hw102_0), ((HB.out.cell (World.block_lt_of_cell? w _ hw102_1)).trans hw102_1), ((HB.out.cell (World.block_lt_of_cell? w _ hw102_2)).trans hw102_2), ((HB.out.cell (World.block_lt_of_cell? w _ hw102_3)).trans hw102_3), ((HB.out.cell (World.block_lt_of_cell? w _ hw102_4)).trans hw102_4)⟩ (fun hHeld => ?_); refine with_tabW accountingref32_SameAll.tab6 accountingref32_SameAll.bits6 (fun HT_ HW_ => ?_)
        generalize wr.drew = w11 at HB HR101_4 HR102_4 hx101_0 hx101_1 hx101_2 hx101_3 hx101_4 hx102_0 hx102_1 hx102_2 hx102_3 hx102_4 hHeld ⊢
        refine pure_ (i := 0) (N := some 17) (v := ?_) (a' := ?_) #[true, false, false, false, false, false, false, false, false, false] rfl rfl (any_of HT_.out (by kernel_rfl)) (fun _ _ _ h => h) (Or.inl ⟨by rfl, ?_⟩) ?_ ?_
        rotate_left
        ·intro w'
         go_simp
         with_reducible rfl
        rotate_left
        ·simp only [Act.put, List.setIfInBounds_toArray, List.set_cons_zero, List.set_cons_succ, i64_w, i32_w]
         rfl
        refine pure_ (i := 1) (N := some 18) (v := ?_) (a' := ?_) #[true, true, false, false, false, false, false, false, false, false] rfl rfl (any_of HT_.out (by kernel_rfl)) (fun _ _ _ h => h) (Or.inl ⟨by rfl, ?_⟩) ?_ ?_
        rotate_left
        ·intro w'
         go_simp
         with_reducible rfl
        rotate_left
        ·simp only [Act.put, List.setIfInBounds_toArray, List.set_cons_zero, List.set_cons_succ, i64_w, i32_w]
         rfl
        refine pure_ (i := 2) (N := some 19) (v := ?_) (a' := ?_) #[true, true, true, false, false, false, false, false, false, false] rfl rfl (any_of HT_.out (by kernel_rfl)) (fun _ _ _ h => h) (Or.inl ⟨by rfl, ?_⟩) ?_ ?_
        rotate_left
        ·intro w'
         go_simp
         with_reducible rfl
        rotate_left
        ·simp only [Act.put, List.setIfInBounds_toArray, List.set_cons_zero, List.set_cons_succ, i64_w, i32_w]
         rfl
        refine pure_ (i := 4) (N := some 21) (v := ?_) (a' := ?_) #[true, true, true, false, true, false, false, false, false, false] rfl rfl (any_of HT_.out (by kernel_rfl)) (fun _ _ _ h => h) (Or.inl ⟨by rfl, ?_⟩) ?_ ?_
        rotate_left
        ·intro w'
         go_simp
         with_reducible rfl
        rotate_left
        ·simp only [Act.put, List.setIfInBounds_toArray, List.set_cons_zero, List.set_cons_succ, i64_w, i32_w]
         rfl
        refine pure_ (i := 5) (N := some 22) (v := ?_) (a' := ?_) #[true, true, true, false, true, true, false, false, false, false] rfl rfl (any_of HT_.out (by kernel_rfl)) (fun _ _ _ h => h) (Or.inl ⟨by rfl, ?_⟩) ?_ ?_
        rotate_left
        ·intro w'
         go_simp
         with_reducible rfl
        rotate_left
        ·simp only [Act.put, List.setIfInBounds_toArray, List.set_cons_zero, List.set_cons_succ, i64_w, i32_w]
         rfl
        refine pure_ (i := 6) (N := some 23) (v := ?_) (a' := ?_) #[true, true, true, false, true, true, true, false, false, false] rfl rfl (any_of HT_.out (by kernel_rfl)) (fun _ _ _ h => h) (Or.inl ⟨by rfl, ?_⟩) ?_ ?_
        rotate_left
        ·intro w'
         go_simp
         with_reducible rfl
        rotate_left
        ·simp only [Act.put, List.setIfInBounds_toArray, List.set_cons_zero, List.set_cons_succ, i64_w, i32_w]
         rfl
        refine take_ (i := 3) (N := some 20) (v := ?_) (a' := ?_) #[true, true, true, true, true, true, true, false, false, false] rfl rfl (take_ofW HT_.out HW_.out (by kernel_rfl)) (fun _ _ _ h => h) (Or.inl ⟨by rfl, ?_⟩) hHeld ?_ ?_
        rotate_left
        ·rintro w' ⟨s0, s1, s2, s3, s4, s5, s6, s7, s8, s9⟩
         go_simp
         with_reducible rfl
        rotate_left
        ·simp only [Act.put, List.setIfInBounds_toArray, List.set_cons_zero, List.set_cons_succ, i64_w, i32_w]
         rfl
        refine take_ (i := 7) (N := some 24) (v := ?_) (a' := ?_) #[true, true, true, true, true, true, true, true, false, false] rfl rfl (take_ofW HT_.out HW_.out (by kernel_rfl)) (fun _ _ _ h => h) (Or.inl ⟨by rfl, ?_⟩) hHeld ?_ ?_
        rotate_left
        ·rintro w' ⟨s0, s1, s2, s3, s4, s5, s6, s7, s8, s9⟩
         go_simp
         with_reducible rfl
        rotate_left
        ·simp only [Act.put, List.setIfInBounds_toArray, List.set_cons_zero, List.set_cons_succ, i64_w, i32_w]
         rfl
        refine one_ (i := 8) (N := some 25) #[true, true, true, true, true, true, true, true, true, false] rfl rfl (one_of HT_.out (by kernel_rfl)) (by decide) (fun K hK => ?_)
        refine goes_ Try.func26 (by kernel_rfl) rfl #[.agg #[.string ((rd_T24 l0 x5_1).f0), .string ((rd_T24 l0 x5_1).f1), .int .i64 ((rd_T24 l0 x5_1).f2), .int .i64 ((rd_T24 l0 x5_1).f3), .slice A101_4 ((rd_T24 l0 x5_1).f4).length c101_4], .agg #[.string ((rd_T24 l1 x5_1).f0), .string ((rd_T24 l1 x5_1).f1), .int .i64 ((rd_T24 l1 x5_1).f2), .int .i64 ((rd_T24 l1 x5_1).f3), .slice A102_4 ((rd_T24 l1 x5_1).f4).length c102_4]] (by rfl) rfl rfl (by (try simp only [List.map_toArray, List.map_cons, List.map_nil]); first | done | rfl | (simp only [List.length_drop, List.length_take]; rfl)) ?_
        with_reducible refine (accountingref32_Same.calls k1 ((rd_T24 l0 x5_1).f0) ((rd_T24 l0 x5_1).f1) ((rd_T24 l0 x5_1).f2) ((rd_T24 l0 x5_1).f3) _ _ ((rd_T24 l0 x5_1).f4) ((rd_T24 l1 x5_1).f0) ((rd_T24 l1 x5_1).f1) ((rd_T24 l1 x5_1).f2) ((rd_T24 l1 x5_1).f3) _ _ ((rd_T24 l1 x5_1).f4) false _ ?side1 ?side2 ?side3 ?side4 A7.out).mono ?_
        (case side1 => repeat (first | exact (Kd.C_below HR101_4.out HB.out) | (with_reducible refine Kd.C_alloc ?_ _) | (with_reducible refine Kd.C_drewN ?_ _) | (with_reducible refine Kd.C_drew ?_)))
        (case side2 => exact HC101_4.out)
        (case side3 => repeat (first | exact (Kd.C_below HR102_4.out HB.out) | (with_reducible refine Kd.C_alloc ?_ _) | (with_reducible refine Kd.C_drewN ?_ _) | (with_reducible refine Kd.C_drew ?_)))
        (case side4 => exact HC102_4.out)
        rintro e w12 ⟨rfl, hb⟩
        refine ⟨_, rfl, ?_⟩
        have n0_ := Aside0.mk (below_step (by repeat (first | (with_reducible first | exact HB.out | apply below_alloc | apply pw_below_drewN | apply below_drew1) | exact HB.out)) hb)
        clear HB
        have HB := n0_
        clear n0_
        (try clear hb)
        (try clear hb2)
        (try clear hk)
        (try clear hi)
        refine hK.out _ _ ⟨((HB.out.cell (World.block_lt_of_cell? w _ hw101_0)).trans hw101_0), ((HB.out.cell (World.block_lt_of_cell? w _ hw101_1)).trans hw101_1), ((HB.out.cell (World.block_lt_of_cell? w _ hw101_2)).trans hw101_2), ((HB.out.cell (World.block_lt_of_cell? w _ hw101_3)).trans hw101_3), ((HB.out.cell (World.block_lt_of_cell? w _ hw101_4)).trans hw101_4), ((HB.out.cell (World.block_lt_of_cell? w _ hw102_0)).trans hw102_0), ((HB.out.cell (World.block_lt_of_cell? w _ hw102_1)).trans hw102_1), ((HB.out.cell (World.block_lt_of_cell? w _ hw102_2)).trans hw102_2), ((HB.out.cell (World.block_lt_of_cell? w _ hw102_3)).trans hw102_3), ((HB.out.cell (World.block_lt_of_cell? w _ hw102_4)).trans hw102_4)⟩ (fun hHeld => ?_)
        clear hK K
        refine norm_ (a' := ?_) ?_ ?_
        rotate_left
        ·show Act.put _ (some 25) _ = _
         simp only [Act.put, List.setIfInBounds_toArray, List.set_cons_zero, List.set_cons_succ, i64_w, i32_w]
         rfl
        refine pure_ (i := 9) (N := some 26) (v := ?_) (a' := ?_) #[true, true, true, true, true, true, true, true, true, true] rfl rfl (any_of HT_.out (by kernel_rfl)) (fun _ _ _ h => h) (Or.inl ⟨by rfl, ?_⟩) ?_ ?_
        rotate_left
        ·intro w'
         go_simp
         with_reducible rfl
        rotate_left
        ·simp only [Act.put, List.setIfInBounds_toArray, List.set_cons_zero, List.set_cons_succ, i64_w, i32_w]
         rfl
        refine done_ (done_of HT_.out (by kernel_rfl)) ?_
        try go_wp2
        go_ret
        exact ⟨by first | rfl | (simp [errW_none, errW_some] <;> rfl) | (simp [*, errW_none, errW_some] <;> rfl), by repeat (first | (with_reducible first | exact HB.out | apply below_alloc | apply pw_below_drewN | apply below_drew1) | exact HB.out)⟩
      ·rw [if_neg c6] at H
       exact absurd H (by simp)
     ·rw [if_neg c5] at H
      exact absurd H (by simp)
    ·rw [if_neg c4] at H
     have c4b0 : decide (x5_1 < (l0.length : Int)) = false := decide_eq_false c4
     clear c4
     obtain rfl := Option.some.inj H
     go_wp2
     go_ret
     exact ⟨by first | rfl | (simp [errW_none, errW_some] <;> rfl) | (simp [*, errW_none, errW_some] <;> rfl), by repeat (first | (with_reducible first | exact HB.out | apply below_alloc | apply pw_below_drewN | apply below_drew1) | exact HB.out)⟩
 ·rw [if_neg c3] at H
  have c3b0 : ((l0.length : Int) == (l1.length : Int)) = false := beq_eq_false_iff_ne.mpr c3
  have c3b1 : ((l0.length : Int) != (l1.length : Int)) = true := bne_iff_ne.mpr c3
  have c3b2 : (l0.length == l1.length) = false := by first | simpa using c3 | (simp at c3 ⊢; omega)
  obtain rfl := Option.some.inj H
  go_enter Try.func27, Try.ntmps27
  go_wp2
  go_ret
  exact ⟨by first | rfl | (simp [errW_none, errW_some] <;> rfl) | (simp [*, errW_none, errW_some] <;> rfl), by repeat (first | (with_reducible first | exact HB.out | apply below_alloc | apply pw_below_drewN | apply below_drew1) | exact HB.out)⟩

end Go.Proofs.Ytoppdlideonjjaa.M
end
section
/- ItemsLists: New, Len, Get and All beside the specification. -/
namespace Go.Proofs.Ytoppdlideonjjaa.M
open Go.RowKit Go.Proofs.YtoppdlideonjjaaW.PrintWords Go.Proofs.YtoppdlideonjjaaW.PrintLast Go.Proofs.YtoppdlideonjjaaW.PrintMore
attribute [local go_sem] max2_int min2_int max_two min_two max_three min_three max_four min_four
set_option linter.unusedVariables false
set_option linter.unusedSimpArgs false
abbrev QT := ByteArray × ByteArray × Int × Int × List Un × Bool
def listsF (k : Nat) (l : List Pr) (code : ByteArray) (c : Int × Int) (q : QT) : Option Bool :=
  if (getP l code).2 = q.2.2.2.2.2 then (accountingref32_Same.f k (getP l code).1.f0 (getP l code).1.f1 (getP l code).1.f2 (getP l code).1.f3 (getP l code).1.f4 q.1 q.2.1 q.2.2.1 q.2.2.2.1 q.2.2.2.2.1).bind fun s => if s = true then (accountingref32_SameAll.f k (allP l) (refAll l)).bind fun t => if t = true then some true else none else none else none
def accountinglaw32_ItemsLists.f (k : Nat) (l : List Pr) (code : ByteArray) : Option Bool :=
  (accountinglaw32_many.f k l).bind fun b => if b = true then some true else if (code.size : Int) > 100 then some true else
    if l.length ≤ 1000000 ∧ (∀ p ∈ l, p.f4.length ≤ 1000000) ∧ (∀ p ∈ l, p.f0.size ≤ 140737488351232) then
      (newf k l).bind fun res => (accountingref32_CheckAll.f k l).bind fun c =>
        (match res with
        | some r => if r.1 = c.1 then (if r.2 = c.2 then (if c.2 = 0 then none else some true) else none) else none
        | none => if c.1 = 0 then (if c.2 = 0 then (accountingref32_Get.f k l code).bind (listsF k l code c) else none) else none)
    else none
set_option maxHeartbeats 16000000 in
set_option maxRecDepth 100000 in
theorem accountinglaw32_ItemsLists.calls (k : Nat) (A0 : Option Addr) (c0 : Nat) (l0 : List Pr) (a1 : ByteArray) (r : Bool) (w : World) (hr0 : Kd.C kPr w A0 l0.length l0) (hc0 : l0.length ≤ c0) (h : accountinglaw32_ItemsLists.f k l0 a1 = some r) :
    Calls Try.prog 8 #[.slice A0 l0.length c0, .string a1] w fun e w' => e = .returned (.bool r) ∧ Below w.heap.size w w' := by
  have HR0 := Aside0.mk hr0
  have HC0 := Aside0.mk hc0
  clear hr0 hc0
  have HB := Aside0.mk (Below.refl w.heap.size w)
  unfold accountinglaw32_ItemsLists.f at h
  obtain ⟨b, hb, h⟩ := Option.bind_eq_some_iff.mp h
  have HMb := Aside0.mk hb
  clear hb
  cases b with
  | true =>
    rw [if_pos rfl] at h
    obtain rfl := Option.some.inj h
    clear h
    go_enter Try.func8, Try.ntmps8
    go_wp2_with (first
      | (go_at_call 20; (with_reducible refine (accountinglaw32_many.calls k A0 c0 l0 true _ HR0.out HC0.out HMb.out).mono ?_); rintro e w1 ⟨rfl, hb⟩; have n0_ := Aside0.mk (below_then HB.out HB.out.size hb); clear HB hb; have HB := n0_; clear n0_)
      | (go_at_call 13; refine (accountinglaw32_lives.calls true _ rfl).mono ?_; rintro e w5 ⟨rfl, hb⟩; have n0_ := Aside0.mk (below_then HB.out HB.out.size hb); clear HB hb; have HB := n0_; clear n0_))
    go_ret
    exact ⟨rfl, HB.out⟩
  | false =>
    rw [if_neg (by decide)] at h
    by_cases cz : (a1.size : Int) > 100
    · rw [if_pos cz] at h
      obtain rfl := Option.some.inj h
      have czb : decide ((100 : Int) < (a1.size : Int)) = true := decide_eq_true cz
      clear h cz
      go_enter Try.func8, Try.ntmps8
      go_wp2_with (first
        | (go_at_call 20; (with_reducible refine (accountinglaw32_many.calls k A0 c0 l0 false _ HR0.out HC0.out HMb.out).mono ?_); rintro e w1 ⟨rfl, hb⟩; have n0_ := Aside0.mk (below_then HB.out HB.out.size hb); clear HB hb; have HB := n0_; clear n0_)
        | (go_at_call 13; refine (accountinglaw32_lives.calls true _ rfl).mono ?_; rintro e w5 ⟨rfl, hb⟩; have n0_ := Aside0.mk (below_then HB.out HB.out.size hb); clear HB hb; have HB := n0_; clear n0_))
      go_ret
      exact ⟨rfl, HB.out⟩
    · rw [if_neg cz] at h
      have czb : decide ((100 : Int) < (a1.size : Int)) = false := decide_eq_false cz
      clear cz
      by_cases cc : l0.length ≤ 1000000 ∧ (∀ p ∈ l0, p.f4.length ≤ 1000000) ∧ (∀ p ∈ l0, p.f0.size ≤ 140737488351232)
      rotate_left
      · rw [if_neg cc] at h; cases h
      rw [if_pos cc] at h
      have HCC := Aside0.mk cc
      clear cc
      obtain ⟨res, hres, h⟩ := Option.bind_eq_some_iff.mp h
      obtain ⟨⟨ci, ce⟩, hck, h⟩ := Option.bind_eq_some_iff.mp h
      have HRes := Aside0.mk hres
      have HCk := Aside0.mk hck
      clear hres hck
      cases res with
      | some rr =>
        obtain ⟨ra, re⟩ := rr
        dsimp only at h
        by_cases d1 : ra = ci
        rotate_left
        · rw [if_neg d1] at h; cases h
        rw [if_pos d1] at h
        by_cases d2 : re = ce
        rotate_left
        · rw [if_neg d2] at h; cases h
        rw [if_pos d2] at h
        by_cases d3 : ce = 0
        · rw [if_pos d3] at h; cases h
        rw [if_neg d3] at h
        obtain rfl := Option.some.inj h
        subst d1 d2
        have d3b : (re == 0) = false := beq_eq_false_iff_ne.mpr d3
        have d3n : (re != 0) = true := bne_iff_ne.mpr d3
        clear h d3
        go_enter Try.func8, Try.ntmps8
        go_wp2_with (first
          | (go_at_call 20; (with_reducible refine (accountinglaw32_many.calls k A0 c0 l0 false _ HR0.out HC0.out HMb.out).mono ?_); rintro e w1 ⟨rfl, hb⟩; have n0_ := Aside0.mk (below_then HB.out HB.out.size hb); clear HB hb; have HB := n0_; clear n0_)
          | (go_at_call 21; refine (items_New.calls k A0 c0 l0 _ _ (Kd.C_below HR0.out HB.out) HC0.out HCC.out.2.1 HCC.out.2.2 HRes.out).mono ?_; rintro e w2 ⟨rfl, hb⟩; have n0_ := Aside0.mk (below_then HB.out HB.out.size hb); clear HB hb; have HB := n0_; clear n0_)
          | (go_at_call 22; (with_reducible refine (accountingref32_CheckAll.calls k A0 c0 l0 ra re _ (Kd.C_below HR0.out HB.out) HC0.out HCk.out).mono ?_); rintro e w3 ⟨rfl, hb⟩; have n0_ := Aside0.mk (below_then HB.out HB.out.size hb); clear HB hb; have HB := n0_; clear n0_)
          | (go_at_call 13; refine (accountinglaw32_lives.calls true _ rfl).mono ?_; rintro e w5 ⟨rfl, hb⟩; have n0_ := Aside0.mk (below_then HB.out HB.out.size hb); clear HB hb; have HB := n0_; clear n0_))
        go_ret
        exact ⟨rfl, HB.out⟩
      | none =>
        dsimp only at h
        by_cases d1 : ci = 0
        rotate_left
        · rw [if_neg d1] at h; cases h
        rw [if_pos d1] at h
        by_cases d2 : ce = 0
        rotate_left
        · rw [if_neg d2] at h; cases h
        rw [if_pos d2] at h
        subst d1 d2
        obtain ⟨⟨q0, q1, q2, q3, q4, q5⟩, hq, h⟩ := Option.bind_eq_some_iff.mp h
        have HQ := Aside0.mk hq
        clear hq
        unfold listsF at h
        dsimp only at h
        obtain ⟨⟨g, gs⟩, hg⟩ : ∃ g, getP l0 a1 = g := ⟨_, rfl⟩
        have HGu : Aside0 (g.f4.length ≤ 1000000) := ⟨by have := getP_mem l0 a1 (fun p => p.f4.length ≤ 1000000) HCC.out.2.1 (Nat.zero_le _); rw [hg] at this; exact this⟩
        rw [hg] at h
        have HG := Aside0.mk hg
        clear hg
        dsimp only at h
        by_cases d3 : gs = q5
        rotate_left
        · rw [if_neg d3] at h; cases h
        rw [if_pos d3] at h
        subst d3
        obtain ⟨s, hs, h⟩ := Option.bind_eq_some_iff.mp h
        cases s with
        | false => rw [if_neg (by decide)] at h; cases h
        | true =>
          rw [if_pos rfl] at h
          have HSm := Aside0.mk hs
          clear hs
          obtain ⟨t, ht, h⟩ := Option.bind_eq_some_iff.mp h
          cases t with
          | false => rw [if_neg (by decide)] at h; cases h
          | true =>
            rw [if_pos rfl] at h
            obtain rfl := Option.some.inj h
            have HSa := Aside0.mk ht
            clear ht h
            have hgb : (gs == gs) = true := beq_self_eq_true gs
            go_enter Try.func8, Try.ntmps8
            go_upto_region 9 with (first
              | (go_at_call 20; (with_reducible refine (accountinglaw32_many.calls k A0 c0 l0 false _ HR0.out HC0.out HMb.out).mono ?_); rintro e w1 ⟨rfl, hb⟩; have n0_ := Aside0.mk (below_then HB.out HB.out.size hb); clear HB hb; have HB := n0_; clear n0_)
              | (go_at_call 21; refine (items_New.calls k A0 c0 l0 _ _ (Kd.C_below HR0.out HB.out) HC0.out HCC.out.2.1 HCC.out.2.2 HRes.out).mono ?_; rintro e w2 ⟨gx, rfl, hls, hb⟩; have n0_ := Aside0.mk (below_then HB.out HB.out.size hb); have HLS := Aside0.mk hls; clear HB hb hls; have HB := n0_; clear n0_)
              | (go_at_call 22; (with_reducible refine (accountingref32_CheckAll.calls k A0 c0 l0 0 0 _ (Kd.C_below HR0.out HB.out) HC0.out HCk.out).mono ?_); rintro e w3 ⟨rfl, hb⟩; have n0_ := Aside0.mk (below_then HB.out HB.out.size hb); have n1_ := Aside0.mk (HLS.out.below hb); clear HB HLS hb; have HB := n0_; have HLS := n1_; clear n0_ n1_))
            go_upto_region 10 with (first
              | (go_at_call 23; refine (list_get.calls a1 l0 _ gx g gs _ HLS.out HG.out HGu.out).mono ?_; rintro e w4 ⟨v4, rfl, hR, hb⟩; obtain ⟨A4, c4, rfl, hc4, hC4⟩ := Kd.R_reads hR; have HC4 := Aside0.mk hC4; have n0_ := Aside0.mk (below_then HB.out HB.out.size hb); have n1_ := Aside0.mk (HLS.out.below hb); clear HB HLS hR hC4 hb; have HB := n0_; have HLS := n1_; clear n0_ n1_))
            refine nameW ?_
            intro W hW
            have hbl : Below w4.heap.size w4 W := by rw [← hW]; exact below_alloc (Below.refl _ _) _
            have HX : Aside0 (W.heap[w4.heap.size]? = some (.cells #[.string g.f0, .string g.f1, .int .i64 g.f2, .int .i64 g.f3, .slice A4 g.f4.length c4] 24 (0, 0))) := ⟨by rw [← hW]; exact blk_new w4 _⟩
            have n0_ := Aside0.mk (below_then HB.out HB.out.size hbl)
            have n1_ := Aside0.mk (HLS.out.below hbl)
            have n2_ := Aside0.mk (Kd.C_below HC4.out hbl)
            clear HB HLS HC4 hbl hW
            have HB := n0_
            have HLS := n1_
            have HC4 := n2_
            clear n0_ n1_ n2_
            obtain ⟨g10, hg10⟩ : ∃ g, w4.heap.size = g := ⟨_, rfl⟩
            rw [hg10] at HX ⊢
            clear hg10
            go_upto_region 11 with (first
              | (go_at_call 24; (with_reducible refine (accountingref32_Get.calls k (fun k_ => k_ < W.heap.size) A0 c0 l0 a1 q0 q1 q2 q3 q4 gs _ ?side1 HQ.out).mono ?_); (case side1 => exact Kd.V_mk HC0.out (Kd.C_F k24_heap (Kd.C_below HR0.out HB.out))); rintro e w5 ⟨v5, rfl, hV, hb⟩; obtain ⟨A5, c5, rfl⟩ := Kd.V_slice hV; obtain ⟨_, hc5, hC5⟩ := Kd.V_reads' hV; have HC5 := Aside0.mk hC5; have n0_ := Aside0.mk (below_then HB.out HB.out.size hb); have n1_ := Aside0.mk (HLS.out.below hb); have n2_ := Aside0.mk (Kd.C_below HC4.out hb); have n3_ := Aside0.mk (box2 HX.out hb); clear HB HLS HC4 HX hV hC5 hb; have HB := n0_; have HLS := n1_; have HC4 := n2_; have HX := n3_; clear n0_ n1_ n2_ n3_))
            refine nameW ?_
            intro W2 hW
            have hbl : Below w5.heap.size w5 W2 := by rw [← hW]; exact below_alloc (Below.refl _ _) _
            have HY : Aside0 (W2.heap[w5.heap.size]? = some (.cells #[.string q0, .string q1, .int .i64 q2, .int .i64 q3, .slice A5 q4.length c5] 24 (0, 0))) := ⟨by rw [← hW]; exact blk_new w5 _⟩
            have n0_ := Aside0.mk (below_then HB.out HB.out.size hbl)
            have n1_ := Aside0.mk (HLS.out.below hbl)
            have n2_ := Aside0.mk (Kd.C_below HC4.out hbl)
            have n3_ := Aside0.mk (box2 HX.out hbl)
            have n4_ := Aside0.mk (Kd.C_below HC5.out hbl)
            clear HB HLS HC4 HX HC5 hbl hW
            have HB := n0_
            have HLS := n1_
            have HC4 := n2_
            have HX := n3_
            have HC5 := n4_
            clear n0_ n1_ n2_ n3_ n4_
            obtain ⟨g12, hg12⟩ : ∃ g, w5.heap.size = g := ⟨_, rfl⟩
            rw [hg12] at HY ⊢
            clear hg12
            obtain ⟨⟨L, hKL, hL⟩, _, _, _⟩ := HLS.out
            have hlL : L.length = l0.length := by have := congrArg List.length hL; simpa using this
            have HKL := Aside0.mk hKL
            clear hKL hL
            have hx0 := (blk_cell HX.out 0).trans rfl
            have hy0 := (blk_cell HY.out 0).trans rfl
            have hx1 := (blk_cell HX.out 1).trans rfl
            have hy1 := (blk_cell HY.out 1).trans rfl
            have hx2 := (blk_cell HX.out 2).trans rfl
            have hy2 := (blk_cell HY.out 2).trans rfl
            have hx3 := (blk_cell HX.out 3).trans rfl
            have hy3 := (blk_cell HY.out 3).trans rfl
            have hx4 := (blk_cell HX.out 4).trans rfl
            have hy4 := (blk_cell HY.out 4).trans rfl
            go_wp2_with (first
              | (go_at_call 25; refine (list_len.calls L _ gx _ HKL.out).mono ?_; rintro e w6 ⟨rfl, rfl⟩; rw [hlL])
              | (go_at_call 26; (with_reducible refine (accountingref32_Same.calls k g.f0 g.f1 g.f2 g.f3 A4 c4 g.f4 q0 q1 q2 q3 A5 c5 q4 true _ HC4.out hc4 HC5.out hc5 HSm.out).mono ?_); rintro e w7 ⟨rfl, hb⟩; have n0_ := Aside0.mk (below_then HB.out HB.out.size hb); have n1_ := Aside0.mk (HLS.out.below hb); clear HB HLS hb; have HB := n0_; have HLS := n1_; clear n0_ n1_)
              | (go_at_call 28; refine (list_all.calls l0 _ gx _ HLS.out HCC.out.2.1).mono ?_; rintro e w8 ⟨v8, rfl, hR, hb⟩; obtain ⟨A8, c8, rfl, hc8, hC8⟩ := Kd.R_reads hR; have HC8 := Aside0.mk hC8; have n0_ := Aside0.mk (below_then HB.out HB.out.size hb); clear HB hR hC8 hb; have HB := n0_; clear n0_)
              | (go_at_call 29; refine (ref_all.calls A0 c0 l0 _ (Kd.C_below HR0.out HB.out) HC0.out HCC.out.1).mono ?_; rintro e w9 ⟨A9, c9, rfl, hc9, hC9, hb⟩; have HC9 := Aside0.mk hC9; have n0_ := Aside0.mk (below_then HB.out HB.out.size hb); have n1_ := Aside0.mk (Kd.C_below HC8.out hb); clear HB HC8 hC9 hb; have HB := n0_; have HC8 := n1_; clear n0_ n1_)
              | (go_at_call 27; (with_reducible refine (accountingref32_SameAll.calls k A8 c8 (allP l0) A9 c9 (refAll l0) true _ HC8.out hc8 HC9.out hc9 HSa.out).mono ?_); rintro e w10 ⟨rfl, hb⟩; have n0_ := Aside0.mk (below_then HB.out HB.out.size hb); clear HB hb; have HB := n0_; clear n0_)
              | (go_at_call 13; refine (accountinglaw32_lives.calls true _ rfl).mono ?_; rintro e w11 ⟨rfl, hb⟩; have n0_ := Aside0.mk (below_then HB.out HB.out.size hb); clear HB hb; have HB := n0_; clear n0_))
            go_ret
            exact ⟨rfl, HB.out⟩
end Go.Proofs.Ytoppdlideonjjaa.M
end
section
/- ItemsOwn: stores into what New was given, and into what Get and All returned, leave the list as_ it is. -/
namespace Go.Proofs.Ytoppdlideonjjaa.M
open Go.RowKit Go.Proofs.YtoppdlideonjjaaW.PrintWords Go.Proofs.YtoppdlideonjjaaW.PrintLast Go.Proofs.YtoppdlideonjjaaW.PrintMore
attribute [local go_sem] max2_int min2_int max_two min_two max_three min_three max_four min_four
set_option linter.unusedVariables false
set_option linter.unusedSimpArgs false
def accountinglaw32_ItemsOwn.f (k : Nat) (l : List Pr) : Option Bool :=
  (accountinglaw32_many.f k l).bind fun b => if b = true then some true else
    if l.length ≤ 1000000 ∧ (∀ p ∈ l, p.f4.length ≤ 1000000) ∧ (∀ p ∈ l, p.f0.size ≤ 140737488351232) then
      (newf k l).bind fun res =>
        (match res with
        | some r => if r.2 = 0 then none else some true
        | none => (accountingref32_SameAll.f k (allP l) (refAll l)).bind fun t => if t = true then some true else none)
    else none
set_option maxHeartbeats 16000000 in
set_option maxRecDepth 100000 in
theorem accountinglaw32_ItemsOwn.calls (k : Nat) (A0 : Option Addr) (c0 : Nat) (l0 : List Pr) (r : Bool) (w : World) (hr0 : Kd.C kPr w A0 l0.length l0) (hc0 : l0.length ≤ c0) (h : accountinglaw32_ItemsOwn.f k l0 = some r) :
    Calls Try.prog 9 #[.slice A0 l0.length c0] w fun e w' => e = .returned (.bool r) ∧ Below w.heap.size w w' := by
  have HR0 := Aside0.mk hr0
  have HC0 := Aside0.mk hc0
  clear hr0 hc0
  have HB := Aside0.mk (Below.refl w.heap.size w)
  unfold accountinglaw32_ItemsOwn.f at h
  obtain ⟨b, hb, h⟩ := Option.bind_eq_some_iff.mp h
  have HMb := Aside0.mk hb
  clear hb
  cases b with
  | true =>
    rw [if_pos rfl] at h
    obtain rfl := Option.some.inj h
    clear h
    go_enter Try.func9, Try.ntmps9
    go_wp2_with (first
      | (go_at_call 20; (with_reducible refine (accountinglaw32_many.calls k A0 c0 l0 true _ HR0.out HC0.out HMb.out).mono ?_); rintro e w1 ⟨rfl, hb⟩; have n0_ := Aside0.mk (below_then HB.out HB.out.size hb); clear HB hb; have HB := n0_; clear n0_)
      | (go_at_call 13; refine (accountinglaw32_lives.calls true _ rfl).mono ?_; rintro e w5 ⟨rfl, hb⟩; have n0_ := Aside0.mk (below_then HB.out HB.out.size hb); clear HB hb; have HB := n0_; clear n0_))
    go_ret
    exact ⟨rfl, HB.out⟩
  | false =>
    rw [if_neg (by decide)] at h
    by_cases cc : l0.length ≤ 1000000 ∧ (∀ p ∈ l0, p.f4.length ≤ 1000000) ∧ (∀ p ∈ l0, p.f0.size ≤ 140737488351232)
    rotate_left
    · rw [if_neg cc] at h; cases h
    rw [if_pos cc] at h
    have HCC := Aside0.mk cc
    have hN : (l0.length : Int) ≤ 1000000 := by omega
    clear cc
    obtain ⟨res, hres, h⟩ := Option.bind_eq_some_iff.mp h
    have HRes := Aside0.mk hres
    have HH := Aside0.mk h
    clear hres h
    go_enter Try.func9, Try.ntmps9
    go_upto_block 0 with (first
      | (go_at_call 20; (with_reducible refine (accountinglaw32_many.calls k A0 c0 l0 false _ HR0.out HC0.out HMb.out).mono ?_); rintro e w1 ⟨rfl, hb⟩; have n0_ := Aside0.mk (below_then HB.out HB.out.size hb); clear HB hb; have HB := n0_; clear n0_)
      | ((with_reducible refine gate_dst (N := 17) rfl ?_); refine Kd.R_lit kPr (w0 := w) w.heap.size 24 rfl (N := 17) rfl (xs := []) (inner := []) (okp := fun _ => False) (ok := fun _ => True) (by first | (go_simp; done) | (go_simp; rfl)) ⟨rfl, fun j q hq => by simp at hq⟩ (fun _ hk => hk.elim) trivial HB.out HB.out.size (by simp) ?_; intro v17 w17 ho hb hg hat; have HO := Aside0.mk ho; clear HB; have HB := Aside0.mk hb; clear ho hb hg hat))
    go_cut [3] (fun v3 wc => Aside0 (Kd.R kPr 24 wc w.heap.size (fun _ => True) v3 l0) ∧ Aside0 (Below w.heap.size w wc))
    case first =>
      go_wp2
      go_loopg [3, 4] l0.length (fun kq v3 v4 w' => ∃ (j : Nat), v4 = .int .i64 (j : Int) ∧ Aside0 (j + kq = l0.length) ∧ Aside0 (Kd.R kPr 24 w' w.heap.size (fun _ => True) v3 (l0.take j)) ∧ Aside0 (Below w.heap.size w w'))
      case atStart => exact ⟨0, rfl, ⟨by omega⟩, HO, HB⟩
      case round =>
        clear HO HB
        obtain ⟨j, rfl, HJ, HO, HB⟩ := hrel
        cases gk with
        | zero =>
          have hj : j = l0.length := by have := HJ.out; omega
          subst hj
          have HO1 := HO.out
          rw [List.take_length] at HO1
          have hjb : decide ((l0.length : Int) < (l0.length : Int)) = false := decide_eq_false (by omega)
          clear HO
          go_wp2
          go_meet
          case rel => exact ⟨⟨HO1⟩, HB⟩
        | succ k1 =>
          have hj : j < l0.length := by have := HJ.out; omega
          have hjb : decide ((j : Int) < (l0.length : Int)) = true := decide_eq_true (by omega)
          have hj2 : (j : Int) + 1 ≤ 1000001 := by omega
          have p1 : 0 ≤ (j : Int) := by omega
          have qj : (j : Int) < (l0.length : Int) := by omega
          obtain ⟨ad, A4, c4, e1, hm0, hm1, hm2, hm3, hm4, hmc, hmC⟩ := at_T24 (Kd.C_below HR0.out HB.out) (j : Int) p1 qj
          cases e1
          have hrd : rd_T24 l0 (j : Int) = l0[j] := by simp [rd_T24, hj]
          have HT : Aside0 (l0.take j ++ [l0[j]] = l0.take (j + 1)) := ⟨by simp⟩
          have HTL : Aside0 ((l0.take j).length ≤ 1000000) := ⟨by rw [List.length_take]; have := HCC.out.1; omega⟩
          have HU : Aside0 (l0[j].f4.length ≤ 1000000) := ⟨HCC.out.2.1 _ (List.getElem_mem hj)⟩
          rw [hrd] at hm0 hm1 hm2 hm3 hm4 hmc hmC
          obtain ⟨m, hm⟩ : ∃ m, l0[j] = m := ⟨_, rfl⟩
          rw [hm] at HT HU hm0 hm1 hm2 hm3 hm4 hmc hmC
          clear hm hj hrd
          obtain ⟨fd, hfd⟩ : ∃ fd, l0.take j = fd := ⟨_, rfl⟩
          rw [hfd] at HT HO HTL
          clear hfd
          simp only [Int.toNat_natCast] at hm0 hm1 hm2 hm3 hm4
          have HmC := Aside0.mk hmC
          have HX0 := Aside0.mk (blk_new wr (.cells #[.string m.f0, .string m.f1, .int .i64 m.f2, .int .i64 m.f3, .slice A4 m.f4.length c4] 24))
          have HBa := Aside0.mk (below_alloc (Below.refl wr.heap.size wr) (.cells #[.string m.f0, .string m.f1, .int .i64 m.f2, .int .i64 m.f3, .slice A4 m.f4.length c4] 24))
          replace p1 := eq_true p1
          replace qj := eq_true qj
          clear hmC hmc
          go_wp2_with (first
            | ((with_reducible refine gate_dst (N := 28) rfl ?_); refine Kd.R_lit kUn (w0 := wr) wr.heap.size 61 rfl (N := 28) rfl (xs := []) (inner := []) (okp := fun _ => False) (ok := fun _ => True) (by first | (go_simp; done) | (go_simp; rfl)) ⟨rfl, fun j q hq => by simp at hq⟩ (fun _ hk => hk.elim) trivial HBa.out HBa.out.size (by simp) ?_; intro v28 w28 ho hb hg hat; have HO28 := Aside0.mk ho; have HB28 := Aside0.mk hb; have HX28 := Aside0.mk (blk_grown HX0.out hg (by simp)); have HA28 := Aside0.mk hat; clear ho hb hg hat; have hz4 := (blk_cell HX28.out 4).trans rfl)
            | ((with_reducible refine gate_builtin (b := .append) (xs := #[.tmp 28, .tmp 30]) rfl ?_); at_builtin; refine Kd.R_append_rows kUn (w0 := wr) (Rr := kUn.K w28) wr.heap.size rfl (.tmp 28) (.tmp 30) 22 61 _ _ rfl Try.underlying22 info61 rfl (by decide) (by omega) v28 [] m.f4 A4 m.f4.length c4 (fun _ => True) (fun _ => False) rfl rfl HO28.out (Kd.C_below HmC.out HB28.out) (fun y cs hy => un_flat _ _ _ _ _ hy) (fun _ hk => hk.elim) (fun _ _ => trivial) HB28.out HB28.out.size (by have := HU.out; simp only [List.length_nil]; omega) ?_; intro v31 w31 ho hb hg hat; rw [List.nil_append] at ho; obtain ⟨A31, c31, e31⟩ := Kd.R_slice ho; subst e31; have HO31 := Aside0.mk ho; have HB31 := Aside0.mk hb; have HX31 := Aside0.mk (blk_grown HX28.out hg (fun e => by obtain ⟨b, e1, e2⟩ := HA28.out; rw [← e] at e1; injection e1 with e1; simp at e2; omega)); clear ho hb hg hat; have hf31 := blk_frozen HX31.out 4; have hc31 := (blk_cell HX31.out 4).trans rfl; have hX2 := blk_set HX31.out 4 (.slice A31 m.f4.length c31); have hy_0 := (blk_cell hX2 0).trans rfl; have hy_1 := (blk_cell hX2 1).trans rfl; have hy_2 := (blk_cell hX2 2).trans rfl; have hy_3 := (blk_cell hX2 3).trans rfl; have hy_4 := (blk_cell hX2 4).trans rfl; have HB2 := Aside0.mk (HB31.out.setCell (p := ⟨wr.heap.size, 4, none⟩) (Nat.le_refl _) (.slice A31 m.f4.length c31)); clear hX2)
            | ((with_reducible refine gate_builtin (b := .append) (xs := #[.tmp 33, .tmp 35]) rfl ?_); at_builtin; refine Kd.R_append kPr (w0 := w) w.heap.size rfl (.tmp 33) (.tmp 35) 45 24 zPr 72 rfl Try.underlying45 infoPr rfl (by decide) (by omega) u3 fd m [.string m.f0, .string m.f1, .int .i64 m.f2, .int .i64 m.f3, .slice A31 m.f4.length c31] (fun _ => True) (fun k => wr.heap.size < k) rfl (by first | (go_simp; done) | (go_simp; rfl)) ?aP ?aK (fun _ _ => trivial) ?aO ?aB ?aS ?aL ?_
               (case aP => exact k24_mkM _ w.heap.size _ m (Kd.R_mono (Kd.R_lower (Kd.R_far (Kd.R_bound (Kd.R_types HO31.out HX31.out (by decide))) (fun k hk => hk.1.2) _) HB.out.size) (fun k hk => by have h1 := hk.2.1; have h2 := hk.1.2; omega)))
               (case aO => exact Kd.R_below HO.out HB2.out)
               (case aK => exact fun k hk => ⟨trivial, fun e => by have := own_lt (Kd.R_own HO.out).choose_spec k e.symm; omega⟩)
               (case aB => exact below_then HB.out HB.out.size HB2.out)
               (case aS => exact Nat.le_trans HB.out.size HB2.out.size)
               (case aL => have := HTL.out; omega)
               intro v36 w36 ho hb hg hat
               have HO7 := Aside0.mk ho
               have HB7 := Aside0.mk hb
               clear ho hb hg hat))
          go_roundg k1
          case measure => omega
          case rel => exact ⟨j + 1, by go_num, ⟨by have := HJ.out; omega⟩, ⟨by rw [← HT.out]; exact HO7.out⟩, HB7⟩
    case rest =>
      clear HO HB
      obtain ⟨HO, HB⟩ := hcut
      obtain ⟨Ao, co, rfl, hco, hCo⟩ := Kd.R_reads HO.out
      have HCo := Aside0.mk hCo
      clear hCo
      cases res with
      | some rr =>
        obtain ⟨ra, re⟩ := rr
        have h := HH.out
        dsimp only at h
        by_cases d3 : re = 0
        · rw [if_pos d3] at h; cases h
        rw [if_neg d3] at h
        obtain rfl := Option.some.inj h
        have d3b : (re == 0) = false := beq_eq_false_iff_ne.mpr d3
        have d3n : (re != 0) = true := bne_iff_ne.mpr d3
        clear h d3
        go_wp2_with (first
          | (go_at_call 21; refine (items_New.calls k Ao co l0 _ _ HCo.out hco HCC.out.2.1 HCC.out.2.2 HRes.out).mono ?_; rintro e w2 ⟨rfl, hb⟩; have n0_ := Aside0.mk (below_then HB.out HB.out.size hb); clear HB hb; have HB := n0_; clear n0_)
          | (go_at_call 13; refine (accountinglaw32_lives.calls true _ rfl).mono ?_; rintro e w5 ⟨rfl, hb⟩; have n0_ := Aside0.mk (below_then HB.out HB.out.size hb); clear HB hb; have HB := n0_; clear n0_))
        go_ret
        exact ⟨rfl, HB.out⟩
      | none =>
        have h := HH.out
        dsimp only at h
        obtain ⟨t, ht, h⟩ := Option.bind_eq_some_iff.mp h
        cases t with
        | false => rw [if_neg (by decide)] at h; cases h
        | true =>
          rw [if_pos rfl] at h
          obtain rfl := Option.some.inj h
          have HSa := Aside0.mk ht
          clear ht h HH
          have hsh := (ShP.of_R HO.out)
          clear HO
          go_upto_block 2 with (first
            | (go_at_call 21; refine (items_New.calls k Ao co l0 _ _ HCo.out hco HCC.out.2.1 HCC.out.2.2 HRes.out).mono ?_; rintro e w2 ⟨gx, rfl, hls, hb⟩; have HLS := Aside0.mk hls; have HSh := Aside0.mk (hsh.mild (Mild.of_below hb)); have n0_ := Aside0.mk (below_then HB.out HB.out.size hb); have HTop := Aside0.mk hb.size; have HLo := Aside0.mk HB.out.size; clear HB hb hls hsh; have HB := n0_; clear n0_))
          have HKp : Aside0 (Kept3 wc.heap.size w2.heap.size w2 w2) := ⟨fun _ _ _ => rfl⟩
          obtain ⟨B, hBB⟩ : ∃ B, wc.heap.size = B := ⟨_, rfl⟩
          obtain ⟨T, hTT⟩ : ∃ T, w2.heap.size = T := ⟨_, rfl⟩
          have HT2 := Aside0.mk hTT
          rw [hBB, hTT] at HKp HTop
          rw [hBB] at HLS HSh HLo
          have HTs : Aside0 (T ≤ w2.heap.size) := ⟨by omega⟩
          clear hBB hTT
          go_cut [9] (fun v9 wd => Aside0 (Kept3 B T w2 wd) ∧ Aside0 (Below w.heap.size w wd) ∧ Aside0 (T ≤ wd.heap.size))
          case first =>
            go_wp2
            go_loopg [9] l0.length (fun kq v9 w' => ∃ (i : Nat), v9 = .int .i64 (i : Int) ∧ Aside0 (i + kq = l0.length) ∧ Aside0 (ShP w' w.heap.size B (.slice Ao l0.length co) (l0.map (fun p => p.f4.length))) ∧ Aside0 (Kept3 B T w2 w') ∧ Aside0 (Below w.heap.size w w') ∧ Aside0 (T ≤ w'.heap.size))
            case atStart => exact ⟨0, rfl, ⟨by omega⟩, HSh, HKp, HB, HTs⟩
            case round =>
              clear HSh HKp HB HTs
              obtain ⟨i, rfl, HI, HSh, HKp, HB, HTs⟩ := hrel
              cases gk with
              | zero =>
                have hi : i = l0.length := by have := HI.out; omega
                subst hi
                have hjb : decide ((l0.length : Int) < (l0.length : Int)) = false := decide_eq_false (by omega)
                go_wp2
                go_meet
                case rel => exact ⟨HKp, HB, HTs⟩
              | succ k1 =>
                have hi : i < l0.length := by have := HI.out; omega
                have hjb : decide ((i : Int) < (l0.length : Int)) = true := decide_eq_true (by omega)
                have hj2 : (i : Int) + 1 ≤ 1000001 := by omega
                have p1 : 0 ≤ (i : Int) := by omega
                have qj : (i : Int) < (l0.length : Int) := by omega
                obtain ⟨ad, A4, c4, e1, hm0, _, _, _, _, _, _⟩ := at_T24 (Kd.C_below HR0.out HB.out) (i : Int) p1 qj
                cases e1
                have hrd : rd_T24 l0 (i : Int) = l0[i] := by simp [rd_T24, hi]
                have HMs : Aside0 ((l0.map (fun p => p.f4.length))[i]? = some l0[i].f4.length) := ⟨by rw [List.getElem?_map, List.getElem?_eq_getElem hi]; rfl⟩
                rw [hrd] at hm0
                simp only [Int.toNat_natCast] at hm0
                have HU : Aside0 (l0[i].f4.length ≤ 1000000) := ⟨HCC.out.2.1 _ (List.getElem_mem hi)⟩
                obtain ⟨m, hm⟩ : ∃ m, l0[i] = m := ⟨_, rfl⟩
                rw [hm] at HMs HU hm0
                clear hm hrd
                obtain ⟨⟨q, s⟩, hq⟩ : ∃ g, getP l0 m.f0 = g := ⟨_, rfl⟩
                have HQu : Aside0 (q.f4.length ≤ 1000000) := ⟨by have := getP_mem l0 m.f0 (fun p => p.f4.length ≤ 1000000) HCC.out.2.1 (Nat.zero_le _); rw [hq] at this; exact this⟩
                have HQ := Aside0.mk hq
                clear hq
                replace p1 := eq_true p1
                replace qj := eq_true qj
                go_upto_region 17 with (first
                  | (go_at_call 23; refine (list_get.calls m.f0 l0 B gx q s _ (HLS.out.step (fun k h1 h2 => HKp.out k h1 (by have := HT2.out; omega))) HQ.out HQu.out).mono ?_; rintro e w4 ⟨v4, rfl, hR, hb⟩; have HSu := Aside0.mk (ShU.of_R hR); obtain ⟨A4, c4, rfl⟩ := Kd.R_slice hR; have n0_ := Aside0.mk (below_then HB.out HB.out.size hb); have n1_ := Aside0.mk (HSh.out.mild (Mild.of_below hb)); have n2_ := Aside0.mk (HKp.out.below hb HTs.out); have HSz := Aside0.mk hb.size; have n3_ := Aside0.mk (Nat.le_trans HTs.out hb.size); have HTw := HTs; clear HB HSh HKp HTs hR hb; have HB := n0_; have HSh := n1_; have HKp := n2_; have HTs := n3_; clear n0_ n1_ n2_ n3_))
                refine nameW ?_
                intro W hW
                have hbl : Below w4.heap.size w4 W := by rw [← hW]; exact below_alloc (Below.refl _ _) _
                have HX : Aside0 (W.heap[w4.heap.size]? = some (.cells #[.string q.f0, .string q.f1, .int .i64 q.f2, .int .i64 q.f3, .slice A4 q.f4.length c4] 24 (0, 0))) := ⟨by rw [← hW]; exact blk_new w4 _⟩
                have m0_ := Aside0.mk (below_then HB.out HB.out.size hbl)
                have m1_ := Aside0.mk (HSh.out.mild (Mild.of_below hbl))
                have m2_ := Aside0.mk (HKp.out.below hbl HTs.out)
                have m3_ := Aside0.mk (Nat.le_trans HTs.out hbl.size)
                have HG10 : Aside0 (T ≤ w4.heap.size) := ⟨HTs.out⟩
                have m4_ := Aside0.mk ((HSu.out.wide (lo' := T) (hi' := W.heap.size) HTw.out hbl.size).mild (Mild.of_below hbl))
                clear HB HSh HKp HTs HSu hbl hW HTw
                have HB := m0_
                have HSh := m1_
                have HKp := m2_
                have HTs := m3_
                have HSu := m4_
                clear m0_ m1_ m2_ m3_ m4_
                obtain ⟨g10, hg10⟩ : ∃ g, w4.heap.size = g := ⟨_, rfl⟩
                rw [hg10] at HX HG10 ⊢
                clear hg10
                go_upto_block 4 with (first
                  | (go_at_call 28; refine (list_all.calls l0 B gx _ (HLS.out.step (fun k h1 h2 => HKp.out k h1 (by have := HT2.out; omega))) HCC.out.2.1).mono ?_; rintro e w5 ⟨v5, rfl, hR, hb⟩; have HSq := Aside0.mk ((ShP.of_R hR).wide HTs.out (Nat.le_refl _)); obtain ⟨A5, c5, rfl⟩ := Kd.R_slice hR; have n0_ := Aside0.mk (below_then HB.out HB.out.size hb); have n1_ := Aside0.mk (HSh.out.mild (Mild.of_below hb)); have n2_ := Aside0.mk (HKp.out.below hb HTs.out); have n3_ := Aside0.mk (Nat.le_trans HTs.out hb.size); have n4_ := Aside0.mk ((HSu.out.wide (Nat.le_refl _) hb.size).mild (Mild.of_below hb)); have n5_ := Aside0.mk (box2 HX.out hb); clear HB HSh HKp HTs HSu HX hR hb; have HB := n0_; have HSh := n1_; have HKp := n2_; have HTs := n3_; have HSu := n4_; have HX := n5_; clear n0_ n1_ n2_ n3_ n4_ n5_))
                have hlA : Aside0 ((allP l0).length = l0.length) := ⟨by unfold allP; rw [List.length_map, srt_length, List.length_map]⟩
                obtain ⟨ms2, hms2⟩ : ∃ ms, (allP l0).map (fun p => p.f4.length) = ms := ⟨_, rfl⟩
                have hl2 : Aside0 (ms2.length = l0.length) := ⟨by rw [← hms2, List.length_map]; exact hlA.out⟩
                have HMall : Aside0 (∀ x ∈ ms2, x ≤ 1000000) := ⟨by rw [← hms2]; intro x hx; obtain ⟨p, hp, rfl⟩ := List.mem_map.1 hx; unfold allP at hp; obtain ⟨c, _, rfl⟩ := List.mem_map.1 hp; exact getP_mem l0 c (fun p => p.f4.length ≤ 1000000) HCC.out.2.1 (Nat.zero_le _)⟩
                rw [hms2] at HSq
                rw [hlA.out] at HSq ⊢
                clear hms2 hlA
                obtain ⟨m2, hm2⟩ : ∃ m2, ms2[i]? = some m2 := ⟨_, List.getElem?_eq_getElem (by have := hl2.out; omega)⟩
                have HM2 := Aside0.mk hm2
                have HMm2 : Aside0 (m2 ≤ 1000000) := ⟨HMall.out m2 (List.mem_of_getElem? hm2)⟩
                clear hm2
                obtain ⟨H5, hH5⟩ : ∃ H5, w5.heap.size = H5 := ⟨_, rfl⟩
                rw [hH5] at HSq HSu
                have HX4 := Aside0.mk ((blk_cell HX.out 4).trans (show _ = some (.slice A4 q.f4.length c4) from rfl))
                have HXn : Aside0 (∃ cs, w5.heap[g10]? = some (.cells cs 24 (0, 0))) := ⟨_, HX.out⟩
                clear hH5 HX
                go_cut [13] (fun v13 we => Aside0 (ShP we w.heap.size B (.slice Ao l0.length co) (l0.map (fun p => p.f4.length))) ∧ Aside0 (Kept3 B T w2 we) ∧ Aside0 (Below w.heap.size w we) ∧ Aside0 (T ≤ we.heap.size))
                case first =>
                  go_wp2
                  go_loopg [13] m.f4.length (fun kq v13 w' => ∃ (j : Nat), v13 = .int .i64 (j : Int) ∧ Aside0 (j + kq = m.f4.length) ∧ Aside0 (OwnInv w w2 B T H5 (.slice Ao l0.length co) (.slice A4 q.f4.length c4) (.slice A5 l0.length c5) q.f4.length g10 (l0.map (fun p => p.f4.length)) ms2 w'))
                  case atStart => exact ⟨0, rfl, ⟨by omega⟩, ⟨⟨HSh.out, HKp.out, HB.out, HTs.out, HSu.out, HSq.out, HX4.out, HXn.out⟩⟩⟩
                  case round =>
                    clear HSh HKp HB HTs HSu HSq HX4 HXn
                    obtain ⟨j, rfl, HJ, HV⟩ := hrel
                    obtain ⟨g, cur, nn, Au, cu, rfl, hg1, hg2, hgh, hgc3, hgf3, hgc4, hcu, hSU⟩ := HV.out.sh.at_ i m.f4.length HMs.out
                    cases gk with
                    | zero =>
                      have hj : j = m.f4.length := by have := HJ.out; omega
                      subst hj
                      have hjc : decide ((m.f4.length : Int) < (m.f4.length : Int)) = false := decide_eq_false (by omega)
                      go_wp2
                      go_meet
                      case rel => exact ⟨⟨HV.out.sh⟩, ⟨HV.out.kp⟩, ⟨HV.out.be⟩, ⟨HV.out.ts⟩⟩
                    | succ k2 =>
                      have hj : j < m.f4.length := by have := HJ.out; omega
                      have hjc : decide ((j : Int) < (m.f4.length : Int)) = true := decide_eq_true (by omega)
                      have hj3 : (j : Int) + 1 ≤ 1000001 := by have := HU.out; omega
                      obtain ⟨gu, curu, xu, rfl, hu1, hu2, huh, huc, huf⟩ := hSU.at_ j hj
                      have pj1 : 0 ≤ (j : Int) := by omega
                      have pj2 : (j : Int) < (m.f4.length : Int) := by omega
                      replace pj1 := eq_true pj1
                      replace pj2 := eq_true pj2
                      have HUH := Aside0.mk huh
                      go_upto_region 22 with (fail)
                      refine nameW ?_
                      intro W1 hW1
                      have HWT : Aside0 (w.heap.size ≤ T) := ⟨by have := HLo.out; have := HTop.out; omega⟩
                      have HV1 : Aside0 (OwnInv w w2 B T H5 (.slice (some ⟨g, 0, none⟩) l0.length co) (.slice A4 q.f4.length c4) (.slice A5 l0.length c5) q.f4.length g10 (l0.map (fun p => p.f4.length)) ms2 W1) := ⟨by rw [← hW1]; exact HV.out.set HUH.out hu1 (.inl hu2) _ _⟩
                      clear hW1 HV hSU hgc3 hgf3 hgc4 hgh huh huc huf HUH
                      have hx4 := HV1.out.x4
                      obtain ⟨gq, curq, nq, Aq, cq, e5, hq1, hq2, hqh, _, _, hqc4, hcq, hSQ⟩ := HV1.out.sq.at_ i m2 HM2.out
                      subst e5
                      have HM5 : Aside0 (m2 ≤ 1000000) := ⟨HMm2.out⟩
                      by_cases c1 : j < q.f4.length
                      · have c1b : decide ((j : Int) < (q.f4.length : Int)) = true := decide_eq_true (by omega)
                        by_cases c2 : j < m2
                        · have c2b : decide ((j : Int) < (m2 : Int)) = true := decide_eq_true (by omega)
                          have r1 : (j : Int) < (q.f4.length : Int) := by omega
                          have r2 : (j : Int) < (m2 : Int) := by omega
                          obtain ⟨gp, curp, xp, rfl, hp1, hp2, hph, hpc, hpf⟩ := HV1.out.su.at_ j c1
                          replace r1 := eq_true r1
                          replace r2 := eq_true r2
                          go_upto_region 24 with (fail)
                          refine nameW ?_
                          intro W2 hW2
                          have HV2 : Aside0 (OwnInv w w2 B T H5 (.slice (some ⟨g, 0, none⟩) l0.length co) (.slice (some ⟨gp, 0, none⟩) q.f4.length c4) (.slice (some ⟨gq, 0, none⟩) l0.length c5) q.f4.length g10 (l0.map (fun p => p.f4.length)) ms2 W2) := ⟨by rw [← hW2]; exact HV1.out.set hph (Nat.le_trans HWT.out hp1) (.inr hp1) _ _⟩
                          clear hW2 hx4 hqc4 hSQ hph hpc hpf hqh
                          obtain ⟨gq', curq', nq', Aq', cq', e6, hq1', hq2', hqh', _, _, hqc4', hcq', hSQ'⟩ := HV2.out.sq.at_ i m2 HM2.out
                          injection e6 with e6
                          injection e6 with e6 _ _
                          subst e6
                          obtain ⟨gr, curr, xr, rfl, hr1, hr2, hrh, hrc, hrf⟩ := hSQ'.at_ j c2
                          go_wp2
                          go_roundg k2
                          case measure => omega
                          case rel => exact ⟨j + 1, by go_num, ⟨by have := HJ.out; omega⟩, ⟨HV2.out.set hrh (Nat.le_trans HWT.out hr1) (.inr hr1) _ _⟩⟩
                        · have c2b : decide ((j : Int) < (m2 : Int)) = false := decide_eq_false (by omega)
                          go_wp2
                          go_roundg k2
                          case measure => omega
                          case rel => exact ⟨j + 1, by go_num, ⟨by have := HJ.out; omega⟩, HV1⟩
                      · have c1b : decide ((j : Int) < (q.f4.length : Int)) = false := decide_eq_false (by omega)
                        go_wp2
                        go_roundg k2
                        case measure => omega
                        case rel => exact ⟨j + 1, by go_num, ⟨by have := HJ.out; omega⟩, HV1⟩
                case rest =>
                  clear HSh HKp HB HTs HSu HSq HX4 HXn
                  obtain ⟨HSh, HKp, HB, HTs⟩ := hcut
                  obtain ⟨g, cur, nn, Au, cu, rfl, hg1, hg2, hgh, hgc3, hgf3, hgc4, hcu, hSU⟩ := HSh.out.at_ i m.f4.length HMs.out
                  have HGH := Aside0.mk hgh
                  clear hgc4 hcu hSU
                  go_wp2
                  go_roundg k1
                  case measure => omega
                  case rel => exact ⟨i + 1, by go_num, ⟨by have := HI.out; omega⟩, ⟨HSh.out.mild (Mild.set_pr HGH.out i _)⟩, ⟨HKp.out.set (.inl hg2) _ _⟩, ⟨HB.out.setCell (p := ⟨g, i * 5 + 3, none⟩) hg1 _⟩, ⟨Nat.le_trans HTs.out (Mild.set_pr HGH.out i _).size⟩⟩
          case rest =>
            clear HSh HKp HB HTs
            obtain ⟨HKp, HB, HTs⟩ := hcut
            have HLf := Aside0.mk (HLS.out.step (fun k h1 h2 => HKp.out k h1 (by have := HT2.out; omega)))
            go_wp2_with (first
              | (go_at_call 28; refine (list_all.calls l0 B gx _ HLf.out HCC.out.2.1).mono ?_; rintro e w8 ⟨v8, rfl, hR, hb⟩; obtain ⟨A8, c8, rfl, hc8, hC8⟩ := Kd.R_reads hR; have HC8 := Aside0.mk hC8; have n0_ := Aside0.mk (below_then HB.out HB.out.size hb); clear HB hR hC8 hb; have HB := n0_; clear n0_)
              | (go_at_call 29; refine (ref_all.calls A0 c0 l0 _ (Kd.C_below HR0.out HB.out) HC0.out HCC.out.1).mono ?_; rintro e w9 ⟨A9, c9, rfl, hc9, hC9, hb⟩; have HC9 := Aside0.mk hC9; have n0_ := Aside0.mk (below_then HB.out HB.out.size hb); have n1_ := Aside0.mk (Kd.C_below HC8.out hb); clear HB HC8 hC9 hb; have HB := n0_; have HC8 := n1_; clear n0_ n1_)
              | (go_at_call 27; (with_reducible refine (accountingref32_SameAll.calls k A8 c8 (allP l0) A9 c9 (refAll l0) true _ HC8.out hc8 HC9.out hc9 HSa.out).mono ?_); rintro e w10 ⟨rfl, hb⟩; have n0_ := Aside0.mk (below_then HB.out HB.out.size hb); clear HB hb; have HB := n0_; clear n0_)
              | (go_at_call 13; refine (accountinglaw32_lives.calls true _ rfl).mono ?_; rintro e w11 ⟨rfl, hb⟩; have n0_ := Aside0.mk (below_then HB.out HB.out.size hb); clear HB hb; have HB := n0_; clear n0_))
            go_ret
            exact ⟨rfl, HB.out⟩
end Go.Proofs.Ytoppdlideonjjaa.M
end
section
/- What came in as_ data of a type, told as_ a value of a kind: whole numbers, bools, strings, slices, structs, one inside the other. -/
namespace Go.Proofs.YtoppdlideonjjaaW.PrintLast
open Go.RowKit Go.Proofs.YtoppdlideonjjaaW.PrintWords
section
variable {P : Program} {α β : Type}
/-- Data of type t reads as_ values of kind d, of which G is known. -/
structure Opens (P : Program) (d : Kd α) (t : TypeId) (G : α → Prop) : Prop where
  get : ∀ {H : Type} (enc : TypeId × Value → H) (W : World) (base : Nat) (sp : Nat → Bool) (held : Bool) (fuel : Nat) (cs : List Value) (x : DataW H × List MemPlace), DataW.trod enc P W base sp held fuel t cs = some x → (∀ n ∈ DataW.weights P t x.1, n ≤ reachBytes) → ∃ a : α, d.K W a cs ∧ G a
theorem Opens.imp {d : Kd α} {t : TypeId} {G G' : α → Prop} (h : Opens P d t G) (hg : ∀ a, G a → G' a) : Opens P d t G' :=
  ⟨fun enc W base sp held fuel cs x hx hw => let ⟨a, h1, h2⟩ := h.get enc W base sp held fuel cs x hx hw; ⟨a, h1, hg a h2⟩⟩
theorem Opens.int {t : TypeId} {k : IntKind} (ht : P.underlying t = some (.int k)) : Opens P (Kd.int k) t (fun n => (Lit.int k n).wf = true) :=
  ⟨fun enc W base sp held fuel cs x hx hw => by
    obtain ⟨n, rfl, _, h⟩ := DataW.trod_int ht hx
    exact ⟨n, rfl, h⟩⟩
theorem Opens.bool {t : TypeId} (ht : P.underlying t = some .bool) : Opens P Kd.bool t (fun _ => True) :=
  ⟨fun enc W base sp held fuel cs x hx hw => by
    obtain ⟨n, rfl, _⟩ := DataW.trod_bool ht hx
    exact ⟨n, rfl, trivial⟩⟩
theorem Opens.string {t : TypeId} (ht : P.underlying t = some .string) : Opens P Kd.string t (fun s => s.size ≤ 140737488351232) :=
  ⟨fun enc W base sp held fuel cs x hx hw => by
    obtain ⟨s, rfl, rfl, h⟩ := DataW.trod_string ht hx
    have := hw s.data.toList.length (by simp [DataW.weights])
    rw [Array.length_toList] at this
    exact ⟨s, rfl, this⟩⟩
theorem list_of {Q : Nat → α → Prop} : ∀ n : Nat, (∀ i, i < n → ∃ a, Q i a) → ∃ xs : List α, xs.length = n ∧ ∀ i a, xs[i]? = some a → Q i a
  | 0, _ => ⟨[], rfl, fun i a h => by simp at h⟩
  | n + 1, h => by
    obtain ⟨xs, hl, hx⟩ := list_of n (fun i hi => h i (by omega))
    obtain ⟨a, ha⟩ := h n (by omega)
    refine ⟨xs ++ [a], by simp [hl], fun i b hb => ?_⟩
    by_cases hi : i < n
    · rw [List.getElem?_append_left (by omega)] at hb
      exact hx i b hb
    · have hi2 : i < n + 1 := by have := (List.getElem?_eq_some_iff.1 hb).1; simp [hl] at this; exact this
      obtain rfl : i = n := by omega
      rw [List.getElem?_append_right (by omega), hl] at hb
      simp at hb
      subst hb
      exact ha
theorem Opens.slice {d : Kd α} {t e : TypeId} {G : α → Prop} (ht : P.underlying t = some (.slice e)) (h : Opens P d e G) (hc : P.cellsOf e = d.sz) {b : Nat} (hb : P.bytesOf e = b) : Opens P (Kd.slice e d) t (fun xs => xs.length * b ≤ 140737488351232 ∧ ∀ x ∈ xs, G x) :=
  ⟨fun {H} enc W base sp held fuel cs x hx hw => by
    rcases DataW.trod_slice ht hx with ⟨rfl, rfl⟩ | ⟨a, len, cap, elems, rest, n, rfl, rfl, rfl, hba, hl, hm, hlen, hel, _, _⟩
    · exact ⟨[], ⟨none, 0, rfl, Nat.le_refl _, rfl, by simp, fun h => absurd h (Nat.lt_irrefl 0)⟩, by simp, fun _ h => by simp at h⟩
    · simp only [DataW.weights, ht] at hw
      have hw0 := hw _ (List.mem_cons_self ..)
      have each : ∀ i, i < len → ∃ y : α, (∃ c : List Value, c.length = d.sz ∧ d.K W y c ∧ ∀ j u, c[j]? = some u → W.cell? (a.add (i * d.sz + j)) = some u) ∧ G y := by
        intro i hi
        have h1 := hel i hi
        rw [List.getElem?_eq_getElem (by omega)] at h1
        obtain ⟨c, hcs, h2⟩ := Option.bind_eq_some_iff.1 h1
        obtain ⟨_, hcl, hcc⟩ := World.cells?_some hcs
        obtain ⟨y, hk, hg⟩ := h.get enc W base sp held n c _ h2 (fun m hm => hw m (List.mem_cons_of_mem _ (List.mem_append_left _ (by
          have : ∀ (l : List (DataW H)) (z : DataW H), z ∈ l → ∀ m ∈ DataW.weights P e z, m ∈ DataW.weightsAll P e l := by
            intro l z hz m hm
            induction l with
            | nil => simp at hz
            | cons y l ih =>
              simp only [DataW.weightsAll, List.mem_append]
              rcases List.mem_cons.1 hz with rfl | hz
              · exact .inl hm
              · exact .inr (ih hz)
          exact this _ _ (List.mem_map.2 ⟨_, List.getElem_mem (by omega), rfl⟩) m hm))))
        refine ⟨y, ⟨c, by rw [hcl, hc], hk, fun j u hu => ?_⟩, hg⟩
        have hj : j < c.length := (List.getElem?_eq_some_iff.1 hu).1
        rw [hc] at hcc
        have := hcc j (by omega)
        rw [add_add] at this
        rw [this, hu]
      obtain ⟨ys, hyl, hy⟩ := list_of len each
      refine ⟨ys, ⟨some a, cap, by rw [hyl], by omega, rfl, ?_, fun _ => ⟨a, rfl, fun j p hj => (hy j p hj).1⟩⟩, ?_, fun y hy' => ?_⟩
      · unfold maxLen at hm; omega
      · rw [hyl]
        have h2 : (elems.map (·.1)).length + (rest.map (·.1)).length ≥ len := by simp; omega
        have h3 : len * b ≤ ((elems.map (·.1)).length + (rest.map (·.1)).length) * P.bytesOf e := by rw [hb]; exact Nat.mul_le_mul_right _ h2
        exact Nat.le_trans h3 hw0
      · obtain ⟨j, hj⟩ := List.getElem?_of_mem hy'
        exact (hy j y hj).2⟩
theorem Opens.iso {d : Kd α} {t : TypeId} {G : α → Prop} (h : Opens P d t G) (f : β → α) (g : α → β) (hg : ∀ a, f (g a) = a) : Opens P (Kd.iso d f) t (fun b => G (f b)) :=
  ⟨fun enc W base sp held fuel cs x hx hw => let ⟨a, h1, h2⟩ := h.get enc W base sp held fuel cs x hx hw; ⟨g a, by show d.K W (f (g a)) cs; rw [hg]; exact h1, by rw [hg]; exact h2⟩⟩
/-- The fields from offset o on. -/
structure FOpens (P : Program) (d : Kd α) (fs : List Field) (o : Nat) (G : α → Prop) : Prop where
  get : ∀ {H : Type} (enc : TypeId × Value → H) (W : World) (base : Nat) (sp : Nat → Bool) (held : Bool) (n : Nat) (cs : List Value) (xs : List (DataW H × List MemPlace)), o + d.sz = cs.length → xs.length = fs.length →
    (∀ (i : Nat) (f : Field), fs[i]? = some f → DataW.trod enc P W base sp held n f.type ((cs.drop f.offset).take (P.cellsOf f.type)) = xs[i]?) → (∀ m ∈ DataW.weightsEach P (fs.map (·.type)) (xs.map (·.1)), m ≤ reachBytes) → ∃ a : α, d.K W a (cs.drop o) ∧ G a
theorem FOpens.one {d : Kd α} {f : Field} {o : Nat} {G : α → Prop} (h : Opens P d f.type G) (ho : f.offset = o) (hs : P.cellsOf f.type = d.sz) : FOpens P d [f] o G :=
  ⟨fun enc W base sp held n cs xs hl hx ht hw => by
    obtain ⟨x, rfl⟩ := List.length_eq_one_iff.1 hx
    have h1 := ht 0 f rfl
    rw [ho, hs, List.take_of_length_le (by simp; omega)] at h1
    exact h.get enc W base sp held n _ x h1 (fun m hm => hw m (by simpa [DataW.weightsEach] using hm))⟩
theorem FOpens.cons {d : Kd α} {d2 : Kd β} {f : Field} {fs : List Field} {o : Nat} {G : α → Prop} {G2 : β → Prop} (h : Opens P d f.type G) (ho : f.offset = o) (hs : P.cellsOf f.type = d.sz) (hr : FOpens P d2 fs (o + d.sz) G2) : FOpens P (Kd.pair d d2) (f :: fs) o (fun p => G p.1 ∧ G2 p.2) :=
  ⟨fun enc W base sp held n cs xs hl hx ht hw => by
    cases xs with
    | nil => simp at hx
    | cons x xs =>
      have h1 := ht 0 f rfl
      simp only [List.getElem?_cons_zero] at h1
      rw [ho, hs] at h1
      have e : o + (Kd.pair d d2).sz = o + d.sz + d2.sz := by show o + (d.sz + d2.sz) = _; omega
      obtain ⟨a, ha, hga⟩ := h.get enc W base sp held n _ x h1 (fun m hm => hw m (by simp only [List.map_cons, DataW.weightsEach, List.mem_append]; exact .inl hm))
      obtain ⟨b, hb, hgb⟩ := hr.get enc W base sp held n cs xs (by omega) (by simpa using hx) (fun i f' hf => by simpa using ht (i + 1) f' (by simpa using hf)) (fun m hm => hw m (by simp only [List.map_cons, DataW.weightsEach, List.mem_append]; exact .inr hm))
      refine ⟨(a, b), ⟨_, _, ?_, ha, hb⟩, hga, hgb⟩
      rw [← List.drop_drop, List.take_append_drop]⟩
theorem Opens.struct {d : Kd α} {t : TypeId} {fs : Array Field} {G : α → Prop} (ht : P.underlying t = some (.struct fs)) (hs : P.cellsOf t = d.sz) (h : FOpens P d fs.toList 0 G) : Opens P d t G :=
  ⟨fun enc W base sp held fuel cs x hx hw => by
    obtain ⟨xs, n, rfl, rfl, hl, hxl, hi⟩ := DataW.trod_struct ht hx
    simp only [DataW.weights, ht] at hw
    have := h.get enc W base sp held n cs xs (by omega) (by simpa using hxl) (fun i f hf => hi i f (by simpa using hf)) hw
    simpa using this⟩
/-- An argument's weights out of all arguments'. -/
theorem weights_at {H : Type} {ts : List TypeId} {ds : List (DataW H)} (h : (DataW.weightsEach P ts ds).all (· ≤ reachBytes) = true) {j : Nat} {t : TypeId} {d : DataW H} (ht : ts[j]? = some t) (hd : ds[j]? = some d) : ∀ n ∈ DataW.weights P t d, n ≤ reachBytes :=
  fun n hn => by simpa using List.all_eq_true.1 h _ (DataW.weights_mem_each ht hd n hn)
end
end Go.Proofs.YtoppdlideonjjaaW.PrintLast
end
section
-- Written by mprint.py (a program of this session) over the kit's print.
namespace Go.Proofs.Ytoppdlideonjjaa.M
open Go.RowKit Go.Proofs.YtoppdlideonjjaaW.PrintWords Go.Proofs.YtoppdlideonjjaaW.PrintLast Go.Proofs.YtoppdlideonjjaaW.PrintMore
attribute [local go_sem] max2_int min2_int max_two min_two max_three min_three max_four min_four   -- for this text's walks alone
set_option linter.unusedVariables false
set_option linter.unusedSimpArgs false

def G35 (x_ : S35) : Prop := ((Lit.int .i64 x_.f0).wf = true) ∧ ((Lit.int .i64 x_.f1).wf = true)
theorem opens35 : Opens Try.prog k35 35 G35 :=
  Opens.imp (Opens.iso (Opens.struct Try.underlying35 (by kernel_rfl) (FOpens.cons (Opens.int Try.underlying3) rfl (by kernel_rfl) (FOpens.one (Opens.int Try.underlying3) rfl (by kernel_rfl)))) (fun x : S35 => (x.f0, x.f1)) (fun p => (⟨p.1, p.2⟩ : S35)) (fun _ => rfl)) (fun _ h => h)
def G61 (x_ : S61) : Prop := (x_.f0.size ≤ 140737488351232) ∧ (G35 x_.f1)
theorem opens61 : Opens Try.prog k61 61 G61 :=
  Opens.imp (Opens.iso (Opens.struct Try.underlying61 (by kernel_rfl) (FOpens.cons (Opens.string Try.underlying9) rfl (by kernel_rfl) (FOpens.one opens35 rfl (by kernel_rfl)))) (fun x : S61 => (x.f0, x.f1)) (fun p => (⟨p.1, p.2⟩ : S61)) (fun _ => rfl)) (fun _ h => h)
def G24 (x_ : S24) : Prop := (x_.f0.size ≤ 140737488351232) ∧ ((x_.f1.size ≤ 140737488351232) ∧ (((Lit.int .i64 x_.f2).wf = true) ∧ (((Lit.int .i64 x_.f3).wf = true) ∧ (x_.f4.length * 32 ≤ 140737488351232 ∧ ∀ y0_ ∈ x_.f4, G61 y0_))))
theorem opens24 : Opens Try.prog k24 24 G24 :=
  Opens.imp (Opens.iso (Opens.struct Try.underlying24 (by kernel_rfl) (FOpens.cons (Opens.string Try.underlying9) rfl (by kernel_rfl) (FOpens.cons (Opens.string Try.underlying9) rfl (by kernel_rfl) (FOpens.cons (Opens.int Try.underlying3) rfl (by kernel_rfl) (FOpens.cons (Opens.int Try.underlying3) rfl (by kernel_rfl) (FOpens.one (Opens.slice Try.underlying22 opens61 (by kernel_rfl) (b := 32) (by kernel_rfl)) rfl (by kernel_rfl))))))) (fun x : S24 => (x.f0, x.f1, x.f2, x.f3, x.f4)) (fun p => (⟨p.1, p.2.1, p.2.2.1, p.2.2.2.1, p.2.2.2.2⟩ : S24)) (fun _ => rfl)) (fun _ h => h)
def G42 (x_ : S42) : Prop := (G24 x_.f0) ∧ (((Lit.int .i64 x_.f1).wf = true) ∧ (((Lit.int .i64 x_.f2).wf = true) ∧ (x_.f3.size ≤ 140737488351232)))
theorem opens42 : Opens Try.prog k42 42 G42 :=
  Opens.imp (Opens.iso (Opens.struct Try.underlying42 (by kernel_rfl) (FOpens.cons opens24 rfl (by kernel_rfl) (FOpens.cons (Opens.int Try.underlying3) rfl (by kernel_rfl) (FOpens.cons (Opens.int Try.underlying3) rfl (by kernel_rfl) (FOpens.one (Opens.string Try.underlying9) rfl (by kernel_rfl)))))) (fun x : S42 => (x.f0, x.f1, x.f2, x.f3)) (fun p => (⟨p.1, p.2.1, p.2.2.1, p.2.2.2⟩ : S42)) (fun _ => rfl)) (fun _ h => h)
end Go.Proofs.Ytoppdlideonjjaa.M
end
section
-- Written by mprint.py (a program of this session) over the kit's print.
namespace Go.Proofs.Ytoppdlideonjjaa.M
open Go.RowKit Go.Proofs.YtoppdlideonjjaaW.PrintWords Go.Proofs.YtoppdlideonjjaaW.PrintLast Go.Proofs.YtoppdlideonjjaaW.PrintMore
attribute [local go_sem] max2_int min2_int max_two min_two max_three min_three max_four min_four   -- for this text's walks alone
set_option linter.unusedVariables false
set_option linter.unusedSimpArgs false

/-- THE ONE PURE STATEMENT of accountinglaw32_ItemsOwn. -/
def accountinglaw32_ItemsOwn.Pure : Prop := ∀ (x0 : List (S24)), (x0.length * 72 ≤ 140737488351232 ∧ ∀ y0_ ∈ x0, G24 y0_) → ∃ k, accountinglaw32_ItemsOwn.f k x0 = some true
end Go.Proofs.Ytoppdlideonjjaa.M
end
section
/- From some number of rounds on: how the pure functions' answers are put together; numbers that do not wrap; places in a list. -/
namespace Go.Proofs.Ytoppdlideonjjaa.M
open Go.RowKit Go.Proofs.YtoppdlideonjjaaW.PrintWords
/-- From some number of rounds on, the answer is r. -/
def Ev {α : Type} (g : Nat → Option α) (r : α) : Prop := ∃ k0, ∀ k, k0 ≤ k → g k = some r
theorem Ev.succ {α : Type} {g : Nat → Option α} {r : α} (h : Ev (fun k => g (k + 1)) r) : Ev g r := by
  obtain ⟨k0, hk⟩ := h
  refine ⟨k0 + 1, fun k hk1 => ?_⟩
  obtain ⟨j, rfl⟩ : ∃ j, k = j + 1 := ⟨k - 1, by omega⟩
  exact hk j (by omega)
theorem Ev.of {α : Type} {g : Nat → Option α} {r : α} (h : ∀ k, g k = some r) : Ev g r := ⟨0, fun k _ => h k⟩
theorem Ev.const {α : Type} (r : α) : Ev (fun _ => some r) r := ⟨0, fun _ _ => rfl⟩
theorem Ev.bind {α β : Type} {g : Nat → Option α} {h : Nat → α → Option β} {a : α} {b : β} (hg : Ev g a) (hh : Ev (fun k => h k a) b) : Ev (fun k => (g k).bind (h k)) b := by
  obtain ⟨k0, h0⟩ := hg
  obtain ⟨k1, h1⟩ := hh
  refine ⟨k0 + k1, fun k hk => ?_⟩
  show (g k).bind (h k) = some b
  rw [h0 k (by omega)]
  exact h1 k (by omega)
theorem Ev.out {α : Type} {g : Nat → Option α} {r : α} (h : Ev g r) : ∃ k, g k = some r := ⟨h.choose, h.choose_spec _ (Nat.le_refl _)⟩
theorem Ev.mono {α : Type} {g : Nat → Option α} {r : α} (h : ∃ k, g k = some r) (m : ∀ k, LeO (g k) (g (k + 1))) : Ev g r := by
  obtain ⟨k0, h0⟩ := h
  refine ⟨k0, fun k hk => ?_⟩
  obtain ⟨d, rfl⟩ : ∃ d, k = k0 + d := ⟨k - k0, by omega⟩
  clear hk
  induction d with
  | zero => exact h0
  | succ d ih => exact m _ _ ih
theorem w64 {n : Int} (h0 : -9223372036854775808 ≤ n) (h1 : n ≤ 9223372036854775807) : wrap64 n = n := by unfold wrap64; omega
theorem u64w {n : Int} (h0 : 0 ≤ n) (h1 : n < 18446744073709551616) : IntKind.u64.wrap n = n := by simp [IntKind.wrap, IntKind.bits, IntKind.signed]; omega
theorem rd_at (P : List Int) (u : Int) (T : List Int) (i : Int) (h : i = (P.length : Int)) : rd (P ++ u :: T) i = u := by
  subst h; simp [rd]
theorem set_at (P : List Int) (u v : Int) (T : List Int) (i : Int) (h : i = (P.length : Int)) : (P ++ u :: T).set i.toNat v = P ++ v :: T := by
  subst h; simp
theorem rd_mid (P R S : List Int) (n : Nat) (h : n < R.length) (c : Int) (hc : c = ((P.length + n : Nat) : Int)) : rd (P ++ R ++ S) c = R[n] := by
  subst hc
  have e : ((P.length + n : Nat) : Int).toNat = P.length + n := by omega
  unfold rd
  rw [e, List.getD_eq_getElem?_getD, List.append_assoc, List.getElem?_append_right (by omega), List.getElem?_append_left (by omega)]
  simp [show P.length + n - P.length = n by omega, List.getElem?_eq_getElem h]
theorem rd_lt {lt : Int → Int → Prop} (P R S : List Int) (hs : R.Pairwise lt) (c d : Int) (h0 : (P.length : Int) ≤ c) (h1 : c < d) (h2 : d < (P.length : Int) + (R.length : Int)) : lt (rd (P ++ R ++ S) c) (rd (P ++ R ++ S) d) := by
  obtain ⟨n, hn⟩ : ∃ n : Nat, c = ((P.length + n : Nat) : Int) := ⟨(c - P.length).toNat, by omega⟩
  obtain ⟨m, hm⟩ : ∃ m : Nat, d = ((P.length + m : Nat) : Int) := ⟨(d - P.length).toNat, by omega⟩
  rw [rd_mid P R S n (by omega) c hn, rd_mid P R S m (by omega) d hm]
  exact (List.pairwise_iff_getElem.1 hs) n m (by omega) (by omega) (by omega)
theorem rd_mem (P R S : List Int) (c : Int) (h0 : (P.length : Int) ≤ c) (h1 : c < (P.length : Int) + (R.length : Int)) : rd (P ++ R ++ S) c ∈ R := by
  obtain ⟨n, hn⟩ : ∃ n : Nat, c = ((P.length + n : Nat) : Int) := ⟨(c - P.length).toNat, by omega⟩
  rw [rd_mid P R S n (by omega) c hn]
  exact List.getElem_mem _
theorem mem_rd (P R S : List Int) (y : Int) (h : y ∈ R) : ∃ c : Int, (P.length : Int) ≤ c ∧ c < (P.length : Int) + (R.length : Int) ∧ rd (P ++ R ++ S) c = y := by
  obtain ⟨n, hn, rfl⟩ := List.mem_iff_getElem.1 h
  exact ⟨((P.length + n : Nat) : Int), by omega, by omega, rd_mid P R S n hn _ rfl⟩
theorem split_at (R : List Int) (n : Nat) (h : n ≤ R.length) : ∃ A B, R = A ++ B ∧ A.length = n ∧ B.length = R.length - n := ⟨R.take n, R.drop n, (List.take_append_drop n R).symm, by simp; omega, by simp⟩
/-- A binary search: F i j with i < j looks at the middle. -/
theorem bsearch {β : Type} (F : Int → Int → Nat → Option β) (G : Int → Nat → Option β) (Q : Int → Prop) (i0 j0 : Int)
    (stepT : ∀ i j r, i0 ≤ i → i < j → j ≤ j0 → Q ((i + j) / 2) → Ev (F ((i + j) / 2 + 1) j) r → Ev (F i j) r)
    (stepF : ∀ i j r, i0 ≤ i → i < j → j ≤ j0 → ¬ Q ((i + j) / 2) → Ev (F i ((i + j) / 2)) r → Ev (F i j) r)
    (stop : ∀ i r, i0 ≤ i → i ≤ j0 → Ev (G i) r → Ev (F i i) r) (mono : ∀ c d, i0 ≤ c → c < d → d < j0 → Q d → Q c) :
    ∀ (N : Nat) (i j : Int), (j - i).toNat ≤ N → i ≤ j → i0 ≤ i → j ≤ j0 → (∀ c, i0 ≤ c → c < i → Q c) → (∀ c, j ≤ c → c < j0 → ¬ Q c) → ∃ t, i ≤ t ∧ t ≤ j ∧ (∀ c, i0 ≤ c → c < t → Q c) ∧ (∀ c, t ≤ c → c < j0 → ¬ Q c) ∧ ∀ r, Ev (G t) r → Ev (F i j) r
  | N, i, j, hN, hij, h0, h1, hq, hn => by
    by_cases h : i < j
    · obtain ⟨N, rfl⟩ : ∃ M, N = M + 1 := ⟨N - 1, by omega⟩
      by_cases q : Q ((i + j) / 2)
      · obtain ⟨t, t1, t2, t3, t4, t5⟩ := bsearch F G Q i0 j0 stepT stepF stop mono N ((i + j) / 2 + 1) j (by omega) (by omega) (by omega) h1 (fun c c0 c1 => by
          by_cases e : c = (i + j) / 2
          · rw [e]; exact q
          · exact mono c ((i + j) / 2) c0 (by omega) (by omega) q) hn
        exact ⟨t, by omega, t2, t3, t4, fun r hr => stepT i j r h0 h h1 q (t5 r hr)⟩
      · obtain ⟨t, t1, t2, t3, t4, t5⟩ := bsearch F G Q i0 j0 stepT stepF stop mono N i ((i + j) / 2) (by omega) (by omega) h0 (by omega) hq (fun c c0 c1 => by
          by_cases e : c = (i + j) / 2
          · rw [e]; exact q
          · exact fun k => q (mono ((i + j) / 2) c (by omega) (by omega) c1 k))
        exact ⟨t, t1, by omega, t3, t4, fun r hr => stepF i j r h0 h h1 q (t5 r hr)⟩
    · obtain rfl : i = j := by omega
      exact ⟨i, Int.le_refl _, Int.le_refl _, hq, hn, fun r hr => stop i r h0 h1 hr⟩
end Go.Proofs.Ytoppdlideonjjaa.M
end
section
/- Codes of chapter 6: the program and its specification come to one closed form. -/
namespace Go.Proofs.Ytoppdlideonjjaa.M
open Go.RowKit Go.Proofs.YtoppdlideonjjaaW.PrintWords
set_option linter.unusedVariables false
set_option linter.unusedSimpArgs false
def letv (a : Int) : Bool := decide (97 ≤ a ∧ a ≤ 122) || (decide (65 ≤ a ∧ a ≤ 90) || a == 95)
def digv (a : Int) : Bool := decide (48 ≤ a ∧ a ≤ 57)
theorem words_letter.eq (a : Int) : words_letter.f a = some (letv a) := by
  unfold words_letter.f letv
  by_cases h1 : a ≥ 97 <;> by_cases h2 : a ≤ 122 <;> by_cases h3 : a ≥ 65 <;> by_cases h4 : a ≤ 90 <;> simp [h1, h2, h3, h4]
theorem words_digit.eq (a : Int) : words_digit.f a = some (digv a) := by
  unfold words_digit.f digv
  by_cases h1 : a ≥ 48 <;> by_cases h2 : a ≤ 57 <;> simp [h1, h2]
theorem accountingref06_letter.eq (a : Int) : accountingref06_letter.f a = some (letv a) := by
  unfold accountingref06_letter.f letv
  by_cases h1 : a ≥ 97 <;> by_cases h2 : a ≤ 122 <;> by_cases h3 : a ≥ 65 <;> by_cases h4 : a ≤ 90 <;> simp [h1, h2, h3, h4]
theorem accountingref06_digit.eq (a : Int) : accountingref06_digit.f a = some (digv a) := by
  unfold accountingref06_digit.f digv
  by_cases h1 : a ≥ 48 <;> by_cases h2 : a ≤ 57 <;> simp [h1, h2]
theorem words_Code_1.eq (a : Int) : words_Code_1.f a = some (letv a || digv a) := by
  unfold words_Code_1.f
  rw [words_letter.eq, words_digit.eq]
  cases letv a <;> simp
/-- n bytes from place i on are letters or digits. -/
def gall (b : ByteArray) : Nat → Nat → Bool
  | 0, _ => true
  | n + 1, i => (letv (bt b (i : Int)) || digv (bt b (i : Int))) && gall b n (i + 1)
def codev (b : ByteArray) : Bool := gall b b.size 0 && (decide ((b.size : Int) ≥ 1) && decide ((b.size : Int) ≤ 12))
theorem words_every.go (b : ByteArray) (hb : b.size ≤ 1000) : ∀ n i, i + n = b.size → Ev (fun k => words_every__words_Code_1.l0 k b (b.size : Int) (i : Int)) (gall b n i)
  | 0, i, h => by
    refine Ev.succ ?_
    simp only [words_every__words_Code_1.l0, if_neg (show ¬ (i : Int) < (b.size : Int) by omega)]
    exact Ev.const _
  | n + 1, i, h => by
    refine Ev.succ ?_
    simp only [words_every__words_Code_1.l0, if_pos (show (i : Int) < (b.size : Int) by omega), if_pos (show (0 : Int) ≤ (i : Int) by omega), words_Code_1.eq, Option.bind_some]
    unfold gall
    rw [w64 (n := (i : Int) + 1) (by omega) (by omega), show (i : Int) + 1 = ((i + 1 : Nat) : Int) by omega]
    cases (letv (bt b (i : Int)) || digv (bt b (i : Int))) with
    | false => exact Ev.const _
    | true =>
      simp only [if_true, Bool.true_and]
      exact words_every.go b hb n (i + 1) (by omega)
theorem size_nil (b : ByteArray) : b.toList = ([] : List UInt8) ↔ b.size = 0 := by
  rw [toList_nil_iff_emptyBytes]
  constructor
  · rintro rfl; rfl
  · intro h
    exact ByteArray.ext (Array.eq_empty_of_size_eq_zero h)
theorem words_Code.eq (b : ByteArray) : Ev (fun k => words_Code.f k b) (codev b) := by
  unfold words_Code.f codev
  by_cases c : b.toList = ([] : List UInt8)
  · have := (size_nil b).1 c
    simp only [if_pos c, decide_eq_false (show ¬ (b.size : Int) ≥ 1 by omega), Bool.false_and, Bool.and_false]
    exact Ev.const _
  · have h1 : b.size ≠ 0 := fun h => c ((size_nil b).2 h)
    simp only [if_neg c, decide_eq_true (show (b.size : Int) ≥ 1 by omega), Bool.true_and]
    by_cases e : (b.size : Int) ≤ 12
    · simp only [if_pos e, decide_eq_true e, Bool.and_true]
      unfold words_every__words_Code_1.f
      exact Ev.bind (words_every.go b (by omega) b.size 0 (by omega)) (Ev.const _)
    · simp only [if_neg e, decide_eq_false e, Bool.and_false]
      exact Ev.const _
theorem accountingref06_Code.go (b : ByteArray) (hb : b.size ≤ 1000000000000000) : ∀ n i, i + n = b.size → Ev (fun k => accountingref06_Code.l0 k b (i : Int)) (gall b n i && (decide ((b.size : Int) ≥ 1) && decide ((b.size : Int) ≤ 12)))
  | 0, i, h => by
    refine Ev.succ ?_
    simp only [accountingref06_Code.l0, if_neg (show ¬ (i : Int) < (b.size : Int) by omega), gall, Bool.true_and]
    by_cases c : (b.size : Int) ≥ 1
    · simp only [if_pos c, decide_eq_true c, Bool.true_and]; exact Ev.const _
    · simp only [if_neg c, decide_eq_false c, Bool.false_and]; exact Ev.const _
  | n + 1, i, h => by
    refine Ev.succ ?_
    simp only [accountingref06_Code.l0, if_pos (show (i : Int) < (b.size : Int) by omega), if_pos (show (0 : Int) ≤ (i : Int) by omega), accountingref06_letter.eq, accountingref06_digit.eq, Option.bind_some]
    unfold gall
    rw [w64 (n := (i : Int) + 1) (by omega) (by omega), show (i : Int) + 1 = ((i + 1 : Nat) : Int) by omega]
    cases letv (bt b (i : Int)) with
    | true =>
      simp only [if_true, Bool.true_or, Bool.true_and]
      exact accountingref06_Code.go b hb n (i + 1) (by omega)
    | false =>
      simp only [Bool.false_eq_true, if_false, Bool.false_or]
      cases digv (bt b (i : Int)) with
      | true =>
        simp only [if_true, Bool.true_and]
        exact accountingref06_Code.go b hb n (i + 1) (by omega)
      | false => exact Ev.const _
theorem accountingref06_Code.eq (b : ByteArray) (hb : b.size ≤ 1000000000000000) : Ev (fun k => accountingref06_Code.f k b) (codev b) := by
  unfold accountingref06_Code.f codev
  exact accountingref06_Code.go b hb b.size 0 (by omega)
end Go.Proofs.Ytoppdlideonjjaa.M
end
section
/- The plain arithmetic of the long division of a number of two words by one word, bit by bit. -/
namespace Go.Proofs.Ytoppdlideonjjaa.M.Dv
open Go.RowKit

theorem wrap_u64 (n : Int) : IntKind.u64.wrap n = n % 18446744073709551616 := by simp [IntKind.wrap, IntKind.bits, IntKind.signed]
theorem wraps_u64 (n : Int) (h₀ : 0 ≤ n) (h₁ : n < 2 ^ 64) : IntKind.u64.wrap n = n := by rw [wrap_u64]; omega

/-- What has been divided so far: the remainder that came in, and the upper bits of the word. -/
def yv (R W : Int) (g : Nat) : Int := R * 2 ^ (64 - g) + W / 2 ^ g
/-- The bounds of what comes in. -/
structure Ctx (R W c : Int) : Prop where
  c0 : 0 < c
  c1 : c < 18446744073709551616
  r0 : 0 ≤ R
  r1 : R < c
  w0 : 0 ≤ W
  w1 : W < 18446744073709551616
structure Inv (R W c : Int) (g : Nat) (r q : Int) : Prop where
  le : g ≤ 64
  rr : r = yv R W g % c
  qq : q = yv R W g / c

theorem pow_pos (n : Nat) : (0 : Int) < 2 ^ n := Int.pow_pos (by decide)

theorem half (W : Int) (g : Nat) : W / 2 ^ g = 2 * (W / 2 ^ (g + 1)) + (W / 2 ^ g) % 2 := by
  have h : W / 2 ^ (g + 1) = W / 2 ^ g / 2 := by
    rw [Int.pow_succ, Int.ediv_ediv_of_nonneg (Int.le_of_lt (pow_pos g))]
  rw [h]; omega

theorem yv_step (R W : Int) (g : Nat) (hg : g + 1 ≤ 64) : yv R W g = 2 * yv R W (g + 1) + (W / 2 ^ g) % 2 := by
  unfold yv
  have h1 : 64 - g = (64 - (g + 1)) + 1 := by omega
  rw [h1, Int.pow_succ]
  have h2 := half W g
  generalize (2 : Int) ^ (64 - (g + 1)) = p at *
  have : R * (p * 2) = 2 * (R * p) := by rw [← Int.mul_assoc, Int.mul_comm]
  rw [this]; omega

theorem yv_bound {R W c : Int} (h : Ctx R W c) (g : Nat) (hg : g ≤ 64) : 0 ≤ yv R W g ∧ yv R W g < c * 2 ^ (64 - g) := by
  unfold yv
  have hp := pow_pos g
  have hq := pow_pos (64 - g)
  have e : (2 : Int) ^ (64 - g) * 2 ^ g = 18446744073709551616 := by
    rw [← Int.pow_add]; have : 64 - g + g = 64 := by omega
    rw [this]; decide
  have hw0 : 0 ≤ W / 2 ^ g := Int.ediv_nonneg h.w0 (Int.le_of_lt hp)
  have hw1 : W / 2 ^ g < 2 ^ (64 - g) := by
    apply Int.ediv_lt_of_lt_mul hp
    rw [e]; exact h.w1
  have hr : R * 2 ^ (64 - g) ≤ (c - 1) * 2 ^ (64 - g) := Int.mul_le_mul_of_nonneg_right (by have := h.r1; omega) (Int.le_of_lt hq)
  have hr0 : 0 ≤ R * 2 ^ (64 - g) := Int.mul_nonneg h.r0 (Int.le_of_lt hq)
  have e2 : (c - 1) * 2 ^ (64 - g) = c * 2 ^ (64 - g) - 2 ^ (64 - g) := by rw [Int.sub_mul, Int.one_mul]
  omega

theorem r_bound {R W c : Int} (h : Ctx R W c) {g : Nat} {r q : Int} (i : Inv R W c g r q) : 0 ≤ r ∧ r < c := by
  rw [i.rr]; exact ⟨Int.emod_nonneg _ (by have := h.c0; omega), Int.emod_lt_of_pos _ h.c0⟩
theorem q_bound {R W c : Int} (h : Ctx R W c) {g : Nat} {r q : Int} (i : Inv R W c g r q) : 0 ≤ q ∧ q < 2 ^ (64 - g) := by
  have hb := yv_bound h g i.le
  rw [i.qq]
  refine ⟨Int.ediv_nonneg hb.1 (Int.le_of_lt h.c0), ?_⟩
  apply Int.ediv_lt_of_lt_mul h.c0
  rw [Int.mul_comm]; exact hb.2
theorem y_eq {R W c : Int} {g : Nat} {r q : Int} (i : Inv R W c g r q) : yv R W g = r + c * q := by
  rw [i.rr, i.qq]; exact (Int.emod_add_mul_ediv _ _).symm

theorem start {R W c : Int} (h : Ctx R W c) : Inv R W c 64 R 0 := by
  have : yv R W 64 = R := by
    unfold yv
    have := h.w0; have := h.w1
    simp; omega
  exact ⟨Nat.le_refl _, by rw [this, Int.emod_eq_of_lt h.r0 h.r1], by rw [this, Int.ediv_eq_zero_of_lt h.r0 h.r1]⟩

theorem bit_eq (x : Int) (h0 : 0 ≤ x) (h1 : x < 18446744073709551616) : bits .and .u64 x 1 = x % 2 :=
  bits_mask .u64 64 (by decide) wraps_u64 1 (by decide) x h0 (by simpa using h1)
theorem or_eq (x y : Int) (h0 : 0 ≤ x) (hx : x % 2 = 0) (h1 : x < 18446744073709551616) (hy0 : 0 ≤ y) (hy : y < 2) : bits .or .u64 x y = x + y :=
  bits_join .u64 64 (by decide) wraps_u64 1 x y h0 (by omega) (by omega) hy0 (by omega) (by omega)

theorem word_bound {R W c : Int} (h : Ctx R W c) (g : Nat) : 0 ≤ W / 2 ^ g ∧ W / 2 ^ g < 18446744073709551616 := by
  have hp := pow_pos g
  refine ⟨Int.ediv_nonneg h.w0 (Int.le_of_lt hp), ?_⟩
  apply Int.ediv_lt_of_lt_mul hp
  have := h.w1
  have h2 : (18446744073709551616 : Int) * 1 ≤ 18446744073709551616 * 2 ^ g := Int.mul_le_mul_of_nonneg_left (by omega) (by decide)
  omega

/-- The remainder, doubled, with the next bit. -/
theorem next_v {R W c : Int} (h : Ctx R W c) {g : Nat} {r q : Int} (i : Inv R W c (g + 1) r q) :
    bits .or .u64 (IntKind.u64.wrap (r * 2)) (bits .and .u64 (W / 2 ^ g) 1) = (r * 2) % 18446744073709551616 + (W / 2 ^ g) % 2 := by
  have hw := word_bound h g
  rw [bit_eq _ hw.1 hw.2, wrap_u64]
  have := r_bound h i
  exact or_eq _ _ (by omega) (by omega) (by omega) (by omega) (by omega)

theorem next {R W c : Int} (h : Ctx R W c) {g : Nat} {r q : Int} (i : Inv R W c (g + 1) r q) {r' q' : Int}
    (hr : r' + c * q' = 2 * r + (W / 2 ^ g) % 2 + c * (2 * q)) (h0 : 0 ≤ r') (h1 : r' < c) : Inv R W c g r' q' := by
  have hy := y_eq i
  have hs := yv_step R W g i.le
  have hu : r' + c * q' = yv R W g := by
    rw [hs, hy, hr]
    have : c * (2 * q) = 2 * (c * q) := by rw [← Int.mul_assoc, Int.mul_comm c 2, Int.mul_assoc]
    rw [this]; omega
  have := (Int.ediv_emod_unique (a := yv R W g) (b := c) (r := r') (q := q') h.c0).2 ⟨hu, h0, h1⟩
  exact ⟨by have := i.le; omega, this.2.symm, this.1.symm⟩

theorem q2 {R W c : Int} (h : Ctx R W c) {g : Nat} {r q : Int} (i : Inv R W c (g + 1) r q) : 0 ≤ q ∧ q * 2 < 18446744073709551616 ∧ IntKind.u64.wrap (q * 2) = q * 2 := by
  have hq := q_bound h i
  have : (2 : Int) ^ (64 - (g + 1)) ≤ 2 ^ 63 := by
    have hn : (2 : Nat) ^ (64 - (g + 1)) ≤ 2 ^ 63 := Nat.pow_le_pow_right (by decide) (by omega)
    exact_mod_cast hn
  have e : (2 : Int) ^ 63 = 9223372036854775808 := by decide
  refine ⟨hq.1, by omega, ?_⟩
  rw [wrap_u64]; omega

/-- A one: the divisor fits. -/
theorem one {R W c : Int} (h : Ctx R W c) {g : Nat} {r q : Int} (i : Inv R W c (g + 1) r q)
    (hc : 9223372036854775808 ≤ r ∨ c ≤ (r * 2) % 18446744073709551616 + (W / 2 ^ g) % 2) :
    Inv R W c g (IntKind.u64.wrap (bits .or .u64 (IntKind.u64.wrap (r * 2)) (bits .and .u64 (W / 2 ^ g) 1) - c)) (bits .or .u64 (IntKind.u64.wrap (q * 2)) 1) := by
  rw [next_v h i, wrap_u64]
  obtain ⟨q0, q1, q2⟩ := q2 h i
  rw [q2, or_eq _ _ (by omega) (by omega) (by omega) (by omega) (by omega)]
  have hr := r_bound h i
  have := h.c0; have := h.c1
  generalize hb : (W / 2 ^ g) % 2 = b at *
  have hb2 : b = 0 ∨ b = 1 := by omega
  have e : (r * 2 % 18446744073709551616 + b - c) % 18446744073709551616 = r * 2 + b - c := by omega
  rw [e]
  refine next h i ?_ (by omega) (by omega)
  rw [hb, Int.mul_add, Int.mul_one, Int.mul_comm q 2]; omega
/-- A zero: it doesn't. -/
theorem zero {R W c : Int} (h : Ctx R W c) {g : Nat} {r q : Int} (i : Inv R W c (g + 1) r q)
    (h2 : r < 9223372036854775808) (hc : (r * 2) % 18446744073709551616 + (W / 2 ^ g) % 2 < c) :
    Inv R W c g (bits .or .u64 (IntKind.u64.wrap (r * 2)) (bits .and .u64 (W / 2 ^ g) 1)) (IntKind.u64.wrap (q * 2)) := by
  rw [next_v h i]
  obtain ⟨q0, q1, q2⟩ := q2 h i
  rw [q2]
  have hr := r_bound h i
  have := h.c0; have := h.c1
  generalize hb : (W / 2 ^ g) % 2 = b at *
  have hb2 : b = 0 ∨ b = 1 := by omega
  have e : r * 2 % 18446744073709551616 + b = r * 2 + b := by omega
  rw [e] at hc ⊢
  refine next h i ?_ (by omega) (by omega)
  rw [hb, Int.mul_comm q 2]; omega
/-- Nothing is left. -/
theorem rest {R W c : Int} (h : Ctx R W c) {g : Nat} {q : Int} (i : Inv R W c (g + 1) 0 q) (hz : IntKind.u64.wrap (W * 2 ^ (63 - g)) = 0) :
    Inv R W c 0 0 (IntKind.u64.wrap (q * 2 ^ (g + 1))) := by
  have hy := y_eq i
  have hp := pow_pos (g + 1)
  have hle := i.le
  rw [wrap_u64] at hz
  have e : (2 : Int) ^ (63 - g) * 2 ^ (g + 1) = 18446744073709551616 := by
    rw [← Int.pow_add]; have : 63 - g + (g + 1) = 64 := by omega
    rw [this]; decide
  have hd : W % 2 ^ (g + 1) = 0 := by
    obtain ⟨k, hk⟩ := Int.dvd_of_emod_eq_zero hz
    rw [← e, Int.mul_assoc, Int.mul_comm W] at hk
    have := Int.eq_of_mul_eq_mul_left (by have := pow_pos (63 - g); omega) hk
    rw [this]; exact Int.mul_emod_right _ _
  have hW : W = 2 ^ (g + 1) * (W / 2 ^ (g + 1)) := by have := Int.emod_add_mul_ediv W (2 ^ (g + 1)); omega
  have e64 : (2 : Int) ^ (64 - (g + 1)) * 2 ^ (g + 1) = 18446744073709551616 := by
    rw [← Int.pow_add]; have : 64 - (g + 1) + (g + 1) = 64 := by omega
    rw [this]; decide
  have h0 : yv R W 0 = c * (q * 2 ^ (g + 1)) := by
    have : yv R W 0 = 2 ^ (g + 1) * yv R W (g + 1) := by
      unfold yv
      rw [Int.mul_add, ← hW]
      have : (2 : Int) ^ (g + 1) * (R * 2 ^ (64 - (g + 1))) = R * 18446744073709551616 := by
        rw [← e64, Int.mul_comm, Int.mul_assoc]
      rw [this]; simp
    rw [this, hy, Int.zero_add, Int.mul_comm, Int.mul_assoc]
  have hq := q_bound h i
  have hlt : q * 2 ^ (g + 1) < 18446744073709551616 := by
    rw [← e64]; exact Int.mul_lt_mul_of_pos_right hq.2 hp
  have hge : 0 ≤ q * 2 ^ (g + 1) := Int.mul_nonneg hq.1 (Int.le_of_lt hp)
  rw [wrap_u64, Int.emod_eq_of_lt hge hlt]
  have hc := h.c0
  exact ⟨by omega, by rw [h0, Int.mul_emod_right], by rw [h0, Int.mul_ediv_cancel_left _ (by omega)]⟩
theorem fin {R W c : Int} {r q : Int} (i : Inv R W c 0 r q) (_h : Ctx R W c) : r = (R * 18446744073709551616 + W) % c ∧ q = (R * 18446744073709551616 + W) / c := by
  have : yv R W 0 = R * 18446744073709551616 + W := by unfold yv; simp
  exact ⟨by rw [i.rr, this], by rw [i.qq, this]⟩

/-- The upper word of the quotient, the lower one, the remainder. -/
def qh (a0 c : Int) : Int := a0 / c
def ql (a0 a1 c : Int) : Int := (a0 % c * 18446744073709551616 + a1) / c
def rm (a0 a1 c : Int) : Int := (a0 % c * 18446744073709551616 + a1) % c
/-! The product of two words, by halves. -/
theorem mask_eq (x : Int) (h0 : 0 ≤ x) (h1 : x < 18446744073709551616) : bits .and .u64 x 4294967295 = x % 4294967296 :=
  bits_mask .u64 64 (by decide) wraps_u64 32 (by decide) x h0 (by omega)
theorem or32_eq (x y : Int) (h0 : 0 ≤ x) (hx : x % 4294967296 = 0) (h1 : x < 18446744073709551616) (hy0 : 0 ≤ y) (hy : y < 4294967296) : bits .or .u64 x y = x + y :=
  bits_join .u64 64 (by decide) wraps_u64 32 x y h0 (by omega) (by omega) hy0 (by omega) (by omega)
def mbot (a b : Int) : Int := IntKind.u64.wrap (bits .and .u64 a 4294967295 * bits .and .u64 b 4294967295)
def mmid (a b : Int) : Int := IntKind.u64.wrap (IntKind.u64.wrap (a / 4294967296 * bits .and .u64 b 4294967295) + mbot a b / 4294967296)
def moth (a b : Int) : Int := IntKind.u64.wrap (IntKind.u64.wrap (bits .and .u64 a 4294967295 * (b / 4294967296)) + bits .and .u64 (mmid a b) 4294967295)
def mhi (a b : Int) : Int := IntKind.u64.wrap (IntKind.u64.wrap (IntKind.u64.wrap (a / 4294967296 * (b / 4294967296)) + mmid a b / 4294967296) + moth a b / 4294967296)
def mlo (a b : Int) : Int := bits .or .u64 (IntKind.u64.wrap (moth a b * 4294967296)) (bits .and .u64 (mbot a b) 4294967295)
theorem prod_le (x y : Int) (h0 : 0 ≤ x) (h1 : x < 4294967296) (h2 : 0 ≤ y) (h3 : y < 4294967296) : 0 ≤ x * y ∧ x * y ≤ 18446744065119617025 := by
  refine ⟨Int.mul_nonneg h0 h2, ?_⟩
  have h4 : x * y ≤ 4294967295 * y := Int.mul_le_mul_of_nonneg_right (by omega) h2
  omega
theorem mul_words (a b : Int) (ha0 : 0 ≤ a) (ha1 : a < 18446744073709551616) (hb0 : 0 ≤ b) (hb1 : b < 18446744073709551616) :
    mhi a b = a * b / 18446744073709551616 ∧ mlo a b = a * b % 18446744073709551616 := by
  have e : a * b = (a / 4294967296) * (b / 4294967296) * 18446744073709551616 + ((a / 4294967296) * (b % 4294967296) + (a % 4294967296) * (b / 4294967296)) * 4294967296 + (a % 4294967296) * (b % 4294967296) := by
    have h1 : a = a / 4294967296 * 4294967296 + a % 4294967296 := by omega
    have h2 : b = b / 4294967296 * 4294967296 + b % 4294967296 := by omega
    generalize a / 4294967296 = x at *
    generalize b / 4294967296 = u at *
    generalize a % 4294967296 = y at *
    generalize b % 4294967296 = v at *
    subst h1 h2
    rw [Int.add_mul, Int.mul_add, Int.mul_add]
    have e1 : x * 4294967296 * (u * 4294967296) = x * u * 18446744073709551616 := by rw [Int.mul_assoc x, Int.mul_left_comm 4294967296 u, ← Int.mul_assoc x]; rfl
    have e2 : x * 4294967296 * v = x * v * 4294967296 := Int.mul_right_comm _ _ _
    have e3 : y * (u * 4294967296) = y * u * 4294967296 := (Int.mul_assoc _ _ _).symm
    rw [e1, e2, e3]; omega
  have hm := mask_eq a ha0 ha1
  have hn := mask_eq b hb0 hb1
  have p1 := prod_le (a / 4294967296) (b / 4294967296) (by omega) (by omega) (by omega) (by omega)
  have p2 := prod_le (a / 4294967296) (b % 4294967296) (by omega) (by omega) (by omega) (by omega)
  have p3 := prod_le (a % 4294967296) (b / 4294967296) (by omega) (by omega) (by omega) (by omega)
  have p4 := prod_le (a % 4294967296) (b % 4294967296) (by omega) (by omega) (by omega) (by omega)
  have hbot : mbot a b = (a % 4294967296) * (b % 4294967296) := by
    unfold mbot; rw [hm, hn, wrap_u64]; omega
  have hmid : mmid a b = (a / 4294967296) * (b % 4294967296) + (a % 4294967296) * (b % 4294967296) / 4294967296 := by
    unfold mmid; rw [hbot, hn, wrap_u64, wrap_u64]; omega
  have hk := mask_eq (mmid a b) (by omega) (by omega)
  have hoth : moth a b = (a % 4294967296) * (b / 4294967296) + mmid a b % 4294967296 := by
    unfold moth; rw [hk, hm, wrap_u64, wrap_u64]; omega
  have hl := mask_eq (mbot a b) (by omega) (by omega)
  refine ⟨?_, ?_⟩
  · unfold mhi
    rw [wrap_u64, wrap_u64, wrap_u64, e]
    generalize (a / 4294967296) * (b / 4294967296) = P1 at *
    generalize (a / 4294967296) * (b % 4294967296) = P2 at *
    generalize (a % 4294967296) * (b / 4294967296) = P3 at *
    generalize (a % 4294967296) * (b % 4294967296) = P4 at *
    clear e hl hk hm hn
    generalize mmid a b = M at *
    generalize moth a b = O at *
    have e1 : (P1 * 18446744073709551616 + (P2 + P3) * 4294967296 + P4) / 18446744073709551616 = P1 + M / 4294967296 + O / 4294967296 := by omega
    have hM : 0 ≤ M / 4294967296 ∧ M / 4294967296 ≤ 4294967294 := by omega
    have hO : 0 ≤ O / 4294967296 ∧ O / 4294967296 ≤ 4294967295 := by omega
    rw [e1]
    clear e1 hmid hoth hbot
    generalize M / 4294967296 = m1 at *
    generalize O / 4294967296 = o1 at *
    rw [Int.emod_eq_of_lt p1.1 (by omega), Int.emod_eq_of_lt (by omega) (by omega), Int.emod_eq_of_lt (by omega) (by omega)]
  · unfold mlo
    rw [hl, wrap_u64, or32_eq _ _ (by omega) (by omega) (by omega) (by omega) (by omega), e]; omega
theorem mul_bounds (a b : Int) (ha0 : 0 ≤ a) (ha1 : a < 18446744073709551616) (hb0 : 0 ≤ b) (hb1 : b < 18446744073709551616) :
    0 ≤ a * b / 18446744073709551616 ∧ a * b / 18446744073709551616 < 18446744073709551616 := by
  refine ⟨Int.ediv_nonneg (Int.mul_nonneg ha0 hb0) (by decide), ?_⟩
  apply Int.ediv_lt_of_lt_mul (by decide)
  have h1 : a * b ≤ 18446744073709551615 * b := Int.mul_le_mul_of_nonneg_right (by omega) hb0
  omega
/-! What MulDiv, Mod and Cmp come to. -/
def inI (x : Int) : Prop := -9223372036854775808 ≤ x ∧ x ≤ 9223372036854775807
instance (x : Int) : Decidable (inI x) := by unfold inI; infer_instance
def ab (x : Int) : Int := if x < 0 then -x else x
theorem ab_bound {x : Int} (h : inI x) : 0 ≤ ab x ∧ ab x ≤ 9223372036854775808 := by
  unfold ab; unfold inI at h; split <;> omega
theorem ab_pos {x : Int} (h : x ≠ 0) : 0 < ab x := by unfold ab; split <;> omega
theorem ab_zero (x : Int) : ab x = 0 ↔ x = 0 := by unfold ab; split <;> omega
/-- Is the result rounded away from zero? -/
def awayv (mode : Int) (neg : Bool) (q r c : Int) : Bool :=
  decide (r ≠ 0) && (decide (mode = 2) || (decide (mode = 3) && decide (c - r ≤ r)) || (decide (mode = 4) && (decide (c - r < r) || (decide (r = c - r) && decide (q % 2 = 1)))) || (decide (mode = 5) && neg))
def negv (a b c : Int) : Bool := (decide (a * b ≠ 0)) && (((decide (a < 0)) != (decide (b < 0))) != (decide (c < 0)))
def sizev (a b c mode : Int) : Int := ab a * ab b / ab c + if awayv mode (negv a b c) (ab a * ab b / ab c) (ab a * ab b % ab c) (ab c) = true then 1 else 0
def signv (neg : Bool) (size : Int) : Int × Int :=
  if neg = true then (if size > 9223372036854775808 then (0, 4) else (-size, 0)) else (if size ≥ 9223372036854775808 then (0, 4) else (size, 0))
def mdv (a b c mode : Int) : Int × Int :=
  if mode < 1 ∨ mode > 5 then (0, 10) else if c = 0 then (0, 2) else signv (negv a b c) (sizev a b c mode)
def modv (a b c : Int) : Int × Int := if c = 0 then (0, 2) else ((a * b) % ab c, 0)

/-- The two words of a product, divided by a word. -/
theorem div_words (P c : Int) (_h0 : 0 ≤ P) (hc : 0 < c) :
    qh (P / 18446744073709551616) c * 18446744073709551616 + ql (P / 18446744073709551616) (P % 18446744073709551616) c = P / c ∧ rm (P / 18446744073709551616) (P % 18446744073709551616) c = P % c := by
  unfold qh ql rm
  have hP : P = (P / 18446744073709551616) * 18446744073709551616 + P % 18446744073709551616 := by omega
  generalize P / 18446744073709551616 = hi at *
  generalize P % 18446744073709551616 = lo at *
  have hh : hi = c * (hi / c) + hi % c := by have := Int.emod_add_mul_ediv hi c; omega
  have e : P = c * (hi / c * 18446744073709551616) + (hi % c * 18446744073709551616 + lo) := by
    rw [hP]
    conv => lhs; rw [hh]
    rw [Int.add_mul, ← Int.mul_assoc]; omega
  rw [e]
  refine ⟨?_, ?_⟩
  · rw [Int.add_comm (c * _), Int.add_mul_ediv_left _ _ (by omega)]; omega
  · rw [Int.mul_add_emod_self_left]
theorem qh_zero (P c : Int) (h0 : 0 ≤ P) (hc : 0 < c) : qh (P / 18446744073709551616) c = 0 ↔ P / c < 18446744073709551616 := by
  have h := (div_words P c h0 hc).1
  have h1 : 0 ≤ qh (P / 18446744073709551616) c := Int.ediv_nonneg (by omega) (by omega)
  have h2 : 0 ≤ ql (P / 18446744073709551616) (P % 18446744073709551616) c ∧ ql (P / 18446744073709551616) (P % 18446744073709551616) c < 18446744073709551616 := by
    unfold ql
    have h3 := Int.emod_nonneg (P / 18446744073709551616) (show c ≠ 0 by omega)
    have h4 := Int.emod_lt_of_pos (P / 18446744073709551616) hc
    refine ⟨Int.ediv_nonneg (by omega) (by omega), ?_⟩
    apply Int.ediv_lt_of_lt_mul hc
    omega
  omega
theorem ctx0 {P c : Int} (h0 : 0 ≤ P) (h1 : P < 18446744073709551616 * 18446744073709551616) (hc : 0 < c) (hc1 : c < 18446744073709551616) : Ctx 0 (P / 18446744073709551616) c ∧ Ctx (P / 18446744073709551616 % c) (P % 18446744073709551616) c :=
  ⟨⟨hc, hc1, by omega, hc, by omega, by omega⟩, ⟨hc, hc1, Int.emod_nonneg _ (by omega), Int.emod_lt_of_pos _ hc, by omega, by omega⟩⟩
theorem prod_ab {a b : Int} (ha : inI a) (hb : inI b) : 0 ≤ ab a * ab b ∧ ab a * ab b < 18446744073709551616 * 18446744073709551616 := by
  have h1 := ab_bound ha; have h2 := ab_bound hb
  refine ⟨Int.mul_nonneg h1.1 h2.1, ?_⟩
  have h4 : ab a * ab b ≤ 9223372036854775808 * ab b := Int.mul_le_mul_of_nonneg_right h1.2 h2.1
  omega
end Go.Proofs.Ytoppdlideonjjaa.M.Dv
end
section
/- Fractions: which are valid. -/
namespace Go.Proofs.Ytoppdlideonjjaa.M
open Go.RowKit Go.Proofs.YtoppdlideonjjaaW.PrintWords Dv
set_option linter.unusedVariables false
set_option linter.unusedSimpArgs false
theorem frac_gcd.go : ∀ (n : Nat) (a b : Int), b.toNat ≤ n → 0 ≤ a → 0 ≤ b → Ev (fun k => frac_gcd.l0 k a b) ((Nat.gcd a.toNat b.toNat : Nat) : Int)
  | 0, a, b, hn, ha, hb => by
    obtain rfl : b = 0 := by omega
    refine Ev.succ ?_
    simp only [frac_gcd.l0, if_true]
    have e : ((Nat.gcd a.toNat (0 : Int).toNat : Nat) : Int) = a := by simp; omega
    rw [e]
    exact Ev.const _
  | n + 1, a, b, hn, ha, hb => by
    refine Ev.succ ?_
    by_cases h : b = 0
    · subst h
      simp only [frac_gcd.l0, if_true]
      have e : ((Nat.gcd a.toNat (0 : Int).toNat : Nat) : Int) = a := by simp; omega
      rw [e]
      exact Ev.const _
    · simp only [frac_gcd.l0, if_neg h]
      have e : Int.tmod a b = a % b := Int.tmod_eq_emod_of_nonneg ha
      have h1 : 0 ≤ a % b := Int.emod_nonneg a h
      have h2 : a % b < b := Int.emod_lt_of_pos a (by omega)
      rw [e]
      have ih := frac_gcd.go n b (a % b) (by omega) hb h1
      have g : Nat.gcd b.toNat (a % b).toNat = Nat.gcd a.toNat b.toNat := by
        rw [Int.toNat_emod ha hb, Nat.gcd_comm a.toNat, Nat.gcd_rec b.toNat a.toNat, Nat.gcd_comm]
      rw [g] at ih
      exact ih
theorem frac_size.eq {a : Int} (h : inI a) : frac_size.f a = some (ab a) := by
  unfold inI at h
  unfold frac_size.f ab
  simp only [wrap_u64]
  split
  · congr 1; omega
  · congr 1; omega
/-- Is a fraction valid. -/
def rightv (n d : Int) : Bool := decide (1 ≤ d ∧ d ≤ 1000000 ∧ -1000000 ≤ n ∧ n ≤ 1000000) && (((Nat.gcd (ab n).toNat d.toNat : Nat) : Int) == 1)
theorem rightv_bounds {n d : Int} (h : rightv n d = true) : 1 ≤ d ∧ d ≤ 1000000 ∧ -1000000 ≤ n ∧ n ≤ 1000000 := by
  unfold rightv at h
  simp only [Bool.and_eq_true, decide_eq_true_eq] at h
  exact h.1
theorem rightv_no {n d : Int} (h : ¬ (1 ≤ d ∧ d ≤ 1000000 ∧ -1000000 ≤ n ∧ n ≤ 1000000)) : rightv n d = false := by
  unfold rightv
  rw [decide_eq_false h, Bool.false_and]
theorem rightv_yes {n d : Int} (h : 1 ≤ d ∧ d ≤ 1000000 ∧ -1000000 ≤ n ∧ n ≤ 1000000) : rightv n d = (((Nat.gcd (ab n).toNat d.toNat : Nat) : Int) == 1) := by
  unfold rightv
  rw [decide_eq_true h, Bool.true_and]
theorem frac_Right.eq {n d : Int} (hn : inI n) (hd : inI d) : Ev (fun k => frac_Right.f k n d) (rightv n d) := by
  have hb := ab_bound hn
  unfold frac_Right.f
  by_cases c1 : d < 1
  · simp only [if_pos c1]
    rw [rightv_no (by omega)]
    refine Ev.succ ?_
    simp only [frac_Right.j0, if_true]
    exact Ev.const _
  simp only [if_neg c1]
  by_cases c2 : d > 1000000
  · simp only [if_pos c2]
    rw [rightv_no (by omega)]
    refine Ev.succ ?_
    simp only [frac_Right.j0, if_true]
    exact Ev.const _
  simp only [if_neg c2, frac_size.eq hn, Option.bind_some]
  refine Ev.succ ?_
  by_cases c3 : ab n > 1000000
  · rw [rightv_no (by unfold ab at c3; split at c3 <;> omega)]
    simp only [frac_Right.j0, decide_eq_true c3, if_true]
    exact Ev.const _
  · simp only [frac_Right.j0, decide_eq_false c3, Bool.false_eq_true, if_false, frac_size.eq hn, frac_size.eq hd, Option.bind_some]
    rw [rightv_yes (by unfold ab at c3; split at c3 <;> omega)]
    have e : ab d = d := by unfold ab; rw [if_neg (by omega)]
    rw [e]
    exact Ev.bind (g := fun k => frac_gcd.f k (ab n) d) (h := fun k t => some (t == 1)) (frac_gcd.go _ _ _ (Nat.le_refl _) hb.1 (by omega)) (Ev.const _)
end Go.Proofs.Ytoppdlideonjjaa.M
end
section
/- Fractions: which are valid, by the specification. -/
namespace Go.Proofs.Ytoppdlideonjjaa.M
open Go.RowKit Go.Proofs.YtoppdlideonjjaaW.PrintWords Dv
set_option linter.unusedVariables false
set_option linter.unusedSimpArgs false
theorem accountingref03_divisor.go : ∀ (n : Nat) (a b : Int), b.toNat ≤ n → 0 ≤ a → 0 ≤ b → Ev (fun k => accountingref03_divisor.l0 k a b) ((Nat.gcd a.toNat b.toNat : Nat) : Int)
  | 0, a, b, hn, ha, hb => by
    obtain rfl : b = 0 := by omega
    refine Ev.succ ?_
    simp only [accountingref03_divisor.l0, if_true]
    have e : ((Nat.gcd a.toNat (0 : Int).toNat : Nat) : Int) = a := by simp; omega
    rw [e]
    exact Ev.const _
  | n + 1, a, b, hn, ha, hb => by
    refine Ev.succ ?_
    by_cases h : b = 0
    · subst h
      simp only [accountingref03_divisor.l0, if_true]
      have e : ((Nat.gcd a.toNat (0 : Int).toNat : Nat) : Int) = a := by simp; omega
      rw [e]
      exact Ev.const _
    · simp only [accountingref03_divisor.l0, if_neg h]
      have e : Int.tmod a b = a % b := Int.tmod_eq_emod_of_nonneg ha
      have h1 : 0 ≤ a % b := Int.emod_nonneg a h
      have h2 : a % b < b := Int.emod_lt_of_pos a (by omega)
      rw [e]
      have ih := accountingref03_divisor.go n b (a % b) (by omega) hb h1
      have g : Nat.gcd b.toNat (a % b).toNat = Nat.gcd a.toNat b.toNat := by
        rw [Int.toNat_emod ha hb, Nat.gcd_comm a.toNat, Nat.gcd_rec b.toNat a.toNat, Nat.gcd_comm]
      rw [g] at ih
      exact ih
theorem accountingref03_size.eq {a : Int} (h : inI a) : accountingref03_size.f a = some (ab a) := by
  unfold inI at h
  unfold accountingref03_size.f ab
  simp only [wrap_u64]
  split
  · congr 1; omega
  · congr 1; omega
theorem accountingref03_Right.eq {n d : Int} (hn : inI n) (hd : inI d) : Ev (fun k => accountingref03_Right.f k n d) (rightv n d) := by
  have hb := ab_bound hn
  unfold accountingref03_Right.f
  by_cases c1 : d ≥ 1
  · by_cases c2 : d ≤ 1000000
    · by_cases c3 : n ≥ -1000000
      · by_cases c4 : n ≤ 1000000
        · simp only [if_pos c1, if_pos c2, if_pos c3, if_pos c4, accountingref03_size.eq hn, accountingref03_size.eq hd, Option.bind_some]
          rw [rightv_yes ⟨c1, c2, c3, c4⟩]
          have e : ab d = d := by unfold ab; rw [if_neg (by omega)]
          rw [e]
          exact Ev.bind (g := fun k => accountingref03_divisor.f k (ab n) d) (h := fun k t => some (t == 1)) (accountingref03_divisor.go _ _ _ (Nat.le_refl _) hb.1 (by omega)) (Ev.const _)
        · simp only [if_pos c1, if_pos c2, if_pos c3, if_neg c4]
          rw [rightv_no (by omega)]
          exact Ev.const _
      · simp only [if_pos c1, if_pos c2, if_neg c3]
        rw [rightv_no (by omega)]
        exact Ev.const _
    · simp only [if_pos c1, if_neg c2]
      rw [rightv_no (by omega)]
      exact Ev.const _
  · simp only [if_neg c1]
    rw [rightv_no (by omega)]
    exact Ev.const _
end Go.Proofs.Ytoppdlideonjjaa.M
end
section
/- What Check of a product comes to, of the program and of the specification. -/
namespace Go.Proofs.Ytoppdlideonjjaa.M
open Go.RowKit Go.Proofs.YtoppdlideonjjaaW.PrintWords Go.Proofs.YtoppdlideonjjaaW.PrintLast Dv
set_option linter.unusedVariables false
set_option linter.unusedSimpArgs false
abbrev Pd := S24
abbrev Uu := S61
theorem toList_inj {a b : ByteArray} : a.toList = b.toList ↔ a = b := by
  rw [ByteArray.toList_eq, ByteArray.toList_eq]
  constructor
  · intro h
    exact ByteArray.ext (Array.toList_inj.1 h)
  · rintro rfl; rfl
theorem inI_wf {n : Int} (h : (Lit.int .i64 n).wf = true) : inI n := by
  simp [Lit.wf, IntKind.min, IntKind.max, IntKind.bits, IntKind.signed] at h
  unfold inI
  omega
abbrev rdU (l : List Uu) (i : Int) : Uu := rd_T61 l i
theorem rdU_at (l : List Uu) (i : Nat) (h : i < l.length) : rdU l (i : Int) = l[i] := by
  unfold rdU rd_T61
  simp [h]
/-- The units seen so far have this name. -/
def seenU (seen : List Uu) (s : ByteArray) : Bool := seen.any (fun v => v.f0.toList == s.toList)
/-- The error of a unit behind those seen. -/
def unitv (b1 : ByteArray) (seen : List Uu) (u : Uu) : Int :=
  if codev u.f0 = false then 7 else if u.f0.toList = b1.toList then 8 else if seenU seen u.f0 = true then 8 else if rightv u.f1.f0 u.f1.f1 = true then (if u.f1.f0 ≤ 0 then 2 else 0) else 2
def unitsv (b1 : ByteArray) : List Uu → List Uu → Int
  | seen, [] => 0
  | seen, u :: r => if unitv b1 seen u = 0 then unitsv b1 (seen ++ [u]) r else unitv b1 seen u
def chkv (p : Pd) : Int :=
  if codev p.f0 = false then 7 else if codev p.f1 = false then 7 else if p.f2 < 1 ∨ p.f2 > 4 then 10 else if p.f3 < 0 ∨ p.f3 > 1000000000000 then 3 else if (p.f4.length : Int) > 10 then 9 else unitsv p.f1 [] p.f4
/-! ### the program -/
theorem item_any (l : List Uu) (hl : l.length ≤ 10000000000000) (s : ByteArray) (n d : Int) : ∀ (m i : Nat), i + m = l.length → ∃ r : Int, Ev (fun k => api_Unit_64__items_unit_1.l0 k l (l.length : Int) (i : Int) s n d) (r, s, n, d) ∧ (decide (r ≥ 0)) = seenU (l.drop i) s
  | 0, i, h => by
    refine ⟨-1, Ev.succ ?_, ?_⟩
    · simp only [api_Unit_64__items_unit_1.l0, if_neg (show ¬ (i : Int) < (l.length : Int) by omega)]
      exact Ev.const _
    · rw [List.drop_eq_nil_of_le (by omega)]
      rfl
  | m + 1, i, h => by
    have hi : i < l.length := by omega
    rw [List.drop_eq_getElem_cons hi]
    by_cases c : l[i].f0.toList = s.toList
    · refine ⟨(i : Int), Ev.succ ?_, ?_⟩
      · simp only [api_Unit_64__items_unit_1.l0, if_pos (show (i : Int) < (l.length : Int) by omega), if_pos (show 0 ≤ (i : Int) by omega), items_unit_1.f, Option.bind_some, show rd_T61 l (i : Int) = l[i] from rdU_at l i hi, c, beq_self_eq_true, if_true]
        exact Ev.const _
      · rw [decide_eq_true (by omega)]
        unfold seenU
        rw [List.any_cons]
        simp only [c, beq_self_eq_true, Bool.true_or]
    · obtain ⟨r, h1, h2⟩ := item_any l hl s n d m (i + 1) (by omega)
      refine ⟨r, Ev.succ ?_, ?_⟩
      · simp only [api_Unit_64__items_unit_1.l0, if_pos (show (i : Int) < (l.length : Int) by omega), if_pos (show 0 ≤ (i : Int) by omega), items_unit_1.f, Option.bind_some, show rd_T61 l (i : Int) = l[i] from rdU_at l i hi, beq_eq_false_iff_ne.mpr c, Bool.false_eq_true, if_false, w64 (show -9223372036854775808 ≤ (i : Int) + 1 by omega) (by omega)]
        exact h1
      · rw [h2]
        unfold seenU
        rw [List.any_cons]
        simp only [beq_eq_false_iff_ne.mpr c, Bool.false_or]
theorem item_unit (b0 b1 : ByteArray) (q2 q3 : Int) (l : List Uu) (hl : l.length ≤ 10000000000000) (i : Nat) (hi : i ≤ l.length) (u : Uu) (hn : inI u.f1.f0) (hd : inI u.f1.f1) : Ev (fun k => items_unit.f k b0 b1 q2 q3 l (i : Int) u.f0 u.f1.f0 u.f1.f1) (unitv b1 (l.take i) u) := by
  unfold items_unit.f unitv
  refine Ev.bind (words_Code.eq u.f0) ?_
  cases codev u.f0 with
  | false => exact Ev.const _
  | true =>
    simp only [if_true, Bool.true_eq_false, if_false]
    by_cases c : u.f0.toList = b1.toList
    · simp only [if_pos c]
      exact Ev.succ (by simp only [items_unit.j0, if_true]; exact Ev.const _)
    · simp only [if_neg c, if_pos (show 0 ≤ (i : Int) by omega), if_pos (show (i : Int) ≤ (l.length : Int) by omega), Int.toNat_natCast]
      have hlt : (l.take i).length ≤ 10000000000000 := by rw [List.length_take]; omega
      obtain ⟨r, h1, h2⟩ := item_any (l.take i) hlt u.f0 u.f1.f0 u.f1.f1 (l.take i).length 0 (by omega)
      rw [List.drop_zero] at h2
      refine Ev.bind (a := (seenU (l.take i) u.f0, u.f0, u.f1.f0, u.f1.f1)) ?_ ?_
      · unfold api_Unit_54__items_unit_1.f
        refine Ev.bind (a := (r, u.f0, u.f1.f0, u.f1.f1)) (by unfold api_Unit_64__items_unit_1.f; exact h1) ?_
        dsimp only
        rw [h2]
        exact Ev.const _
      · refine Ev.succ ?_
        simp only [items_unit.j0]
        cases seenU (l.take i) u.f0 with
        | true => simp only [if_true]; exact Ev.const _
        | false =>
          simp only [Bool.false_eq_true, if_false]
          refine Ev.bind (frac_Right.eq hn hd) ?_
          cases rightv u.f1.f0 u.f1.f1 with
          | false => simp only [Bool.false_eq_true, if_false]; exact Ev.const _
          | true =>
            simp only [if_true]
            split <;> exact Ev.const _
theorem items_Check.go (p : Pd) (hl : p.f4.length ≤ 10000000000000) (hg : ∀ u ∈ p.f4, inI u.f1.f0 ∧ inI u.f1.f1) : ∀ (m i : Nat), i + m = p.f4.length → Ev (fun k => items_Check.l0 k p.f4 (p.f4.length : Int) (i : Int) p.f0 p.f1 p.f2 p.f3 p.f4) (unitsv p.f1 (p.f4.take i) (p.f4.drop i))
  | 0, i, h => by
    refine Ev.succ ?_
    simp only [items_Check.l0, if_neg (show ¬ (i : Int) < (p.f4.length : Int) by omega)]
    rw [List.drop_eq_nil_of_le (by omega)]
    exact Ev.const _
  | m + 1, i, h => by
    have hi : i < p.f4.length := by omega
    rw [List.drop_eq_getElem_cons hi]
    refine Ev.succ ?_
    simp only [items_Check.l0, if_pos (show (i : Int) < (p.f4.length : Int) by omega), if_pos (show 0 ≤ (i : Int) by omega), show rd_T61 p.f4 (i : Int) = p.f4[i] from rdU_at p.f4 i hi]
    have hu := hg p.f4[i] (List.getElem_mem hi)
    refine Ev.bind (item_unit p.f0 p.f1 p.f2 p.f3 p.f4 hl i (by omega) p.f4[i] hu.1 hu.2) ?_
    unfold unitsv
    by_cases c : unitv p.f1 (p.f4.take i) p.f4[i] = 0
    · simp only [if_pos c, w64 (show -9223372036854775808 ≤ (i : Int) + 1 by omega) (by omega)]
      have ih := items_Check.go p hl hg m (i + 1) (by omega)
      rw [show p.f4.take i ++ [p.f4[i]] = p.f4.take (i + 1) by simp]
      exact ih
    · simp only [if_neg c]
      exact Ev.const _
theorem items_Check.eq (p : Pd) (hl : p.f4.length ≤ 10000000000000) (hg : ∀ u ∈ p.f4, inI u.f1.f0 ∧ inI u.f1.f1) : Ev (fun k => items_Check.f k p.f0 p.f1 p.f2 p.f3 p.f4) (chkv p) := by
  have h7 : Ev (fun k => items_Check.j0 k true p.f0 p.f1 p.f2 p.f3 p.f4) 7 := Ev.succ (by simp only [items_Check.j0, if_true]; exact Ev.const _)
  have h10 : Ev (fun k => items_Check.j1 k true p.f0 p.f1 p.f2 p.f3 p.f4) 10 := Ev.succ (by simp only [items_Check.j1, if_true]; exact Ev.const _)
  have h3 : Ev (fun k => items_Check.j2 k true p.f0 p.f1 p.f2 p.f3 p.f4) 3 := Ev.succ (by simp only [items_Check.j2, if_true]; exact Ev.const _)
  unfold items_Check.f chkv
  refine Ev.bind (words_Code.eq p.f0) ?_
  cases codev p.f0 with
  | false => simp only [Bool.false_eq_true, if_false, if_true]; exact h7
  | true =>
    simp only [if_true, Bool.true_eq_false, if_false]
    refine Ev.bind (words_Code.eq p.f1) ?_
    cases codev p.f1 with
    | false => simp only [Bool.not_false, if_true]; exact h7
    | true =>
      simp only [Bool.not_true, Bool.true_eq_false, if_false]
      refine Ev.succ ?_
      simp only [items_Check.j0, Bool.false_eq_true, if_false]
      by_cases c1 : p.f2 < 1
      · simp only [if_pos c1, if_pos (show p.f2 < 1 ∨ p.f2 > 4 from .inl c1)]; exact h10
      simp only [if_neg c1]
      by_cases c2 : p.f2 > 4
      · simp only [decide_eq_true c2, if_pos (show p.f2 < 1 ∨ p.f2 > 4 from .inr c2)]; exact h10
      simp only [decide_eq_false c2, if_neg (show ¬ (p.f2 < 1 ∨ p.f2 > 4) by omega)]
      refine Ev.succ ?_
      simp only [items_Check.j1, Bool.false_eq_true, if_false]
      by_cases c3 : p.f3 < 0
      · simp only [if_pos c3, if_pos (show p.f3 < 0 ∨ p.f3 > 1000000000000 from .inl c3)]; exact h3
      simp only [if_neg c3]
      by_cases c4 : p.f3 > 1000000000000
      · simp only [decide_eq_true c4, if_pos (show p.f3 < 0 ∨ p.f3 > 1000000000000 from .inr c4)]; exact h3
      simp only [decide_eq_false c4, if_neg (show ¬ (p.f3 < 0 ∨ p.f3 > 1000000000000) by omega)]
      refine Ev.succ ?_
      simp only [items_Check.j2, Bool.false_eq_true, if_false]
      by_cases c5 : (p.f4.length : Int) > 10
      · simp only [if_pos c5]; exact Ev.const _
      · simp only [if_neg c5]
        exact items_Check.go p hl hg p.f4.length 0 (by omega)
/-! ### the specification -/
theorem ref_l1 (p : Pd) (hl : p.f4.length ≤ 10000000000000) (u : Uu) (hn : inI u.f1.f0) (hd : inI u.f1.f1) (i : Nat) (hi : i ≤ p.f4.length) (R : Int) (hR : Ev (fun k => accountingref32_Check.l0 k (wrap64 ((i : Int) + 1)) p.f0 p.f1 p.f2 p.f3 p.f4) R) : ∀ (m j : Nat), j + m = i → Ev (fun k => accountingref32_Check.l1 k (i : Int) (j : Int) p.f0 p.f1 p.f2 p.f3 p.f4 u.f0 u.f1.f0 u.f1.f1) (if seenU ((p.f4.take i).drop j) u.f0 = true then 8 else if rightv u.f1.f0 u.f1.f1 = true then (if u.f1.f0 ≤ 0 then 2 else R) else 2)
  | 0, j, h => by
    refine Ev.succ ?_
    rw [List.drop_eq_nil_of_le (by rw [List.length_take]; omega)]
    simp only [accountingref32_Check.l1, if_neg (show ¬ (j : Int) < (i : Int) by omega), seenU, List.any_nil, Bool.false_eq_true, if_false]
    refine Ev.bind (accountingref03_Right.eq hn hd) ?_
    cases rightv u.f1.f0 u.f1.f1 with
    | false => simp only [Bool.false_eq_true, if_false]; exact Ev.const _
    | true =>
      simp only [if_true]
      split
      · exact Ev.const _
      · exact hR
  | m + 1, j, h => by
    have hj : j < p.f4.length := by omega
    have hj2 : j < (p.f4.take i).length := by rw [List.length_take]; omega
    refine Ev.succ ?_
    rw [List.drop_eq_getElem_cons hj2, List.getElem_take]
    simp only [accountingref32_Check.l1, if_pos (show (j : Int) < (i : Int) by omega), if_pos (show 0 ≤ (j : Int) by omega), if_pos (show (j : Int) < (p.f4.length : Int) by omega), show rd_T61 p.f4 (j : Int) = p.f4[j] from rdU_at p.f4 j hj]
    by_cases c : p.f4[j].f0.toList = u.f0.toList
    · simp only [if_pos c, seenU, List.any_cons, c, beq_self_eq_true, Bool.true_or, if_true]
      exact Ev.const _
    · simp only [if_neg c, seenU, List.any_cons, beq_eq_false_iff_ne.mpr c, Bool.false_or, w64 (show -9223372036854775808 ≤ (j : Int) + 1 by omega) (by omega)]
      exact ref_l1 p hl u hn hd i hi R hR m (j + 1) (by omega)
theorem accountingref32_Check.go (p : Pd) (hl : p.f4.length ≤ 10000000000000) (hg : ∀ u ∈ p.f4, inI u.f1.f0 ∧ inI u.f1.f1) (hs : ∀ u ∈ p.f4, u.f0.size ≤ 1000000000000000) : ∀ (m i : Nat), i + m = p.f4.length → Ev (fun k => accountingref32_Check.l0 k (i : Int) p.f0 p.f1 p.f2 p.f3 p.f4) (unitsv p.f1 (p.f4.take i) (p.f4.drop i))
  | 0, i, h => by
    refine Ev.succ ?_
    simp only [accountingref32_Check.l0, if_neg (show ¬ (i : Int) < (p.f4.length : Int) by omega)]
    rw [List.drop_eq_nil_of_le (by omega)]
    exact Ev.const _
  | m + 1, i, h => by
    have hi : i < p.f4.length := by omega
    rw [List.drop_eq_getElem_cons hi]
    refine Ev.succ ?_
    simp only [accountingref32_Check.l0, if_pos (show (i : Int) < (p.f4.length : Int) by omega), if_pos (show 0 ≤ (i : Int) by omega), show rd_T61 p.f4 (i : Int) = p.f4[i] from rdU_at p.f4 i hi]
    have hu := hg p.f4[i] (List.getElem_mem hi)
    have ih := accountingref32_Check.go p hl hg hs m (i + 1) (by omega)
    rw [show ((i + 1 : Nat) : Int) = wrap64 ((i : Int) + 1) from (w64 (show -9223372036854775808 ≤ (i : Int) + 1 by omega) (by omega)).symm] at ih
    refine Ev.bind (accountingref06_Code.eq p.f4[i].f0 (hs _ (List.getElem_mem hi))) ?_
    unfold unitsv
    rw [show p.f4.take i ++ [p.f4[i]] = p.f4.take (i + 1) by simp]
    unfold unitv
    cases codev p.f4[i].f0 with
    | false => simp only [Bool.false_eq_true, if_false, if_true]; exact Ev.const _
    | true =>
      simp only [if_true, Bool.true_eq_false, if_false]
      by_cases c : p.f4[i].f0.toList = p.f1.toList
      · simp only [if_pos c]; exact Ev.const _
      · simp only [if_neg c]
        have h1 := ref_l1 p hl p.f4[i] hu.1 hu.2 i (by omega) _ ih i 0 (by omega)
        rw [List.drop_zero] at h1
        have e : (if (if seenU (p.f4.take i) p.f4[i].f0 = true then (8 : Int) else if rightv p.f4[i].f1.f0 p.f4[i].f1.f1 = true then (if p.f4[i].f1.f0 ≤ 0 then 2 else 0) else 2) = 0 then unitsv p.f1 (p.f4.take (i + 1)) (p.f4.drop (i + 1)) else (if seenU (p.f4.take i) p.f4[i].f0 = true then (8 : Int) else if rightv p.f4[i].f1.f0 p.f4[i].f1.f1 = true then (if p.f4[i].f1.f0 ≤ 0 then 2 else 0) else 2)) = (if seenU (p.f4.take i) p.f4[i].f0 = true then (8 : Int) else if rightv p.f4[i].f1.f0 p.f4[i].f1.f1 = true then (if p.f4[i].f1.f0 ≤ 0 then 2 else unitsv p.f1 (p.f4.take (i + 1)) (p.f4.drop (i + 1))) else 2) := by
          by_cases d1 : seenU (p.f4.take i) p.f4[i].f0 = true
          · simp only [if_pos d1]; rfl
          · simp only [if_neg d1]
            by_cases d2 : rightv p.f4[i].f1.f0 p.f4[i].f1.f1 = true
            · simp only [if_pos d2]
              by_cases d3 : p.f4[i].f1.f0 ≤ 0
              · simp only [if_pos d3]; rfl
              · simp only [if_neg d3, if_true]
            · simp only [if_neg d2]; rfl
        rw [e]
        exact h1
theorem accountingref32_Check.eq (p : Pd) (hl : p.f4.length ≤ 10000000000000) (hg : ∀ u ∈ p.f4, inI u.f1.f0 ∧ inI u.f1.f1) (hs : ∀ u ∈ p.f4, u.f0.size ≤ 1000000000000000) (h0 : p.f0.size ≤ 1000000000000000) (h1 : p.f1.size ≤ 1000000000000000) : Ev (fun k => accountingref32_Check.f k p.f0 p.f1 p.f2 p.f3 p.f4) (chkv p) := by
  have h7 : Ev (fun k => accountingref32_Check.j0 k true p.f0 p.f1 p.f2 p.f3 p.f4) 7 := Ev.succ (by simp only [accountingref32_Check.j0, if_true]; exact Ev.const _)
  have h10 : Ev (fun k => accountingref32_Check.j1 k true p.f0 p.f1 p.f2 p.f3 p.f4) 10 := Ev.succ (by simp only [accountingref32_Check.j1, if_true]; exact Ev.const _)
  have h3 : Ev (fun k => accountingref32_Check.j2 k true p.f0 p.f1 p.f2 p.f3 p.f4) 3 := Ev.succ (by simp only [accountingref32_Check.j2, if_true]; exact Ev.const _)
  unfold accountingref32_Check.f chkv
  refine Ev.bind (accountingref06_Code.eq p.f0 h0) ?_
  cases codev p.f0 with
  | false => simp only [Bool.false_eq_true, if_false, if_true]; exact h7
  | true =>
    simp only [if_true, Bool.true_eq_false, if_false]
    refine Ev.bind (accountingref06_Code.eq p.f1 h1) ?_
    cases codev p.f1 with
    | false => simp only [Bool.not_false, if_true]; exact h7
    | true =>
      simp only [Bool.not_true, Bool.true_eq_false, if_false]
      refine Ev.succ ?_
      simp only [accountingref32_Check.j0, Bool.false_eq_true, if_false]
      by_cases c1 : p.f2 < 1
      · simp only [if_pos c1, if_pos (show p.f2 < 1 ∨ p.f2 > 4 from .inl c1)]; exact h10
      simp only [if_neg c1]
      by_cases c2 : p.f2 > 4
      · simp only [decide_eq_true c2, if_pos (show p.f2 < 1 ∨ p.f2 > 4 from .inr c2)]; exact h10
      simp only [decide_eq_false c2, if_neg (show ¬ (p.f2 < 1 ∨ p.f2 > 4) by omega)]
      refine Ev.succ ?_
      simp only [accountingref32_Check.j1, Bool.false_eq_true, if_false]
      by_cases c3 : p.f3 < 0
      · simp only [if_pos c3, if_pos (show p.f3 < 0 ∨ p.f3 > 1000000000000 from .inl c3)]; exact h3
      simp only [if_neg c3]
      by_cases c4 : p.f3 > 1000000000000
      · simp only [decide_eq_true c4, if_pos (show p.f3 < 0 ∨ p.f3 > 1000000000000 from .inr c4)]; exact h3
      simp only [decide_eq_false c4, if_neg (show ¬ (p.f3 < 0 ∨ p.f3 > 1000000000000) by omega)]
      refine Ev.succ ?_
      simp only [accountingref32_Check.j2, Bool.false_eq_true, if_false]
      by_cases c5 : (p.f4.length : Int) > 10
      · simp only [if_pos c5]; exact Ev.const _
      · simp only [if_neg c5]
        exact accountingref32_Check.go p hl hg hs p.f4.length 0 (by omega)
end Go.Proofs.Ytoppdlideonjjaa.M
end
