/- What the claims of this seat share, part 2 of 2: what the program's functions compute. -/
import Derived.Test.YtikglhfeookhaaaQB1
import Derived.Test.YtikglhfeookhaaaQR1
import Derived.Test.YtikglhfeookhaaaQB6
import Derived.Test.YtikglhfeookhaaaQB7
section
-- Written by mprint.py (a program of this session) over the kit's print.
namespace Go.Proofs.Ytikglhfeookhaaa.M
open Go.RowKit Go.Proofs.YtikglhfeookhaaaW.PrintWords Go.Proofs.YtikglhfeookhaaaW.PrintLast Go.Proofs.YtikglhfeookhaaaW.PrintMore
attribute [local go_sem] max2_int min2_int max_two min_two max_three min_three max_four min_four   -- for this text's walks alone
set_option linter.unusedVariables false
set_option linter.unusedSimpArgs false

/-! ### accountingref08_Shares: function 14 -/
mutual
def accountingref08_Shares.j0 : Nat → Int → List Int → Int → Int → Option (List Int × Int)
  | 0, _, _, _, _ => none
  | k + 1, x0, x1, x6, x8 => if 0 ≤ (x1.length : Int) then (if ((x1.length : Int) : Int).toNat ≤ 35184372088832 then (accountingref08_Shares.l0 k x0 x1 x6 x8 (List.replicate ((x1.length : Int) : Int).toNat 0) (List.replicate ((x1.length : Int) : Int).toNat 0) x8 0) else (none)) else (none)
def accountingref08_Shares.l0 : Nat → Int → List Int → Int → Int → List Int → List Int → Int → Int → Option (List Int × Int)
  | 0, _, _, _, _, _, _, _, _ => none
  | k + 1, x0, x1, x6, x8, x9, x10, x11, x12 => if x12 < (x1.length : Int) then (if 0 ≤ x12 then ((accountingref02_MulDiv.f k x8 (rd x1 x12) x6 1).bind fun bt110 => ((accountingref02_Mod.f k x8 (rd x1 x12) x6).bind fun bt113 => (if x12 < (x9.length : Int) then ((some (x9.set (x12 : Int).toNat bt110.1 : List Int)).bind fun y115 => (if x12 < (x10.length : Int) then (accountingref08_Shares.l0 k x0 x1 x6 x8 y115 (x10.set (x12 : Int).toNat bt113.1) (wrap64 (x11 - (rd y115 x12))) (wrap64 (x12 + 1))) else (none))) else (none)))) else (none)) else (accountingref08_Shares.l1 k x0 x9 x10 x11)
def accountingref08_Shares.l1 : Nat → Int → List Int → List Int → Int → Option (List Int × Int)
  | 0, _, _, _, _ => none
  | k + 1, x0, x9, x10, x11 => if x11 > 0 then (accountingref08_Shares.l2 k x0 x9 x10 x11 0 0) else (accountingref08_Shares.l3 k x0 x9 0)
def accountingref08_Shares.l2 : Nat → Int → List Int → List Int → Int → Int → Int → Option (List Int × Int)
  | 0, _, _, _, _, _, _ => none
  | k + 1, x0, x9, x10, x11, x17, x18 => if x18 < (x10.length : Int) then (if 0 ≤ x18 then (if 0 ≤ x17 then (if x17 < (x10.length : Int) then (if (rd x10 x18) > (rd x10 x17) then (accountingref08_Shares.l2 k x0 x9 x10 x11 x18 (wrap64 (x18 + 1))) else (accountingref08_Shares.l2 k x0 x9 x10 x11 x17 (wrap64 (x18 + 1)))) else (none)) else (none)) else (none)) else (if 0 ≤ x17 then (if x17 < (x9.length : Int) then (if x17 < (x10.length : Int) then (accountingref08_Shares.l1 k x0 (x9.set (x17 : Int).toNat (wrap64 ((rd x9 x17) + 1))) (x10.set (x17 : Int).toNat (-1)) (wrap64 (x11 - 1))) else (none)) else (none)) else (none))
def accountingref08_Shares.l3 : Nat → Int → List Int → Int → Option (List Int × Int)
  | 0, _, _, _ => none
  | k + 1, x0, x9, x19 => if x19 < (x9.length : Int) then (if x0 < 0 then (if 0 ≤ x19 then (accountingref08_Shares.l3 k x0 (x9.set (x19 : Int).toNat (wrap64 (-(rd x9 x19)))) (wrap64 (x19 + 1))) else (none)) else (some (x9, 0))) else (some (x9, 0))
end
def accountingref08_Shares.f (k : Nat) (a0 : Int) (l1 : List Int) : Option (List Int × Int) := (accountingref08_total.f k a0 l1).bind fun bt101 => (if bt101.2 = 0 then (if a0 < 0 then (accountingref08_Shares.j0 k a0 l1 bt101.1 (wrap64 (-a0))) else (accountingref08_Shares.j0 k a0 l1 bt101.1 a0)) else (some (([] : List Int), bt101.2)))
theorem accountingref08_Shares.mono_l : ∀ k, (∀ y0 y1 y2 y3, LeO (accountingref08_Shares.j0 k y0 y1 y2 y3) (accountingref08_Shares.j0 (k + 1) y0 y1 y2 y3)) ∧ (∀ y0 y1 y2 y3 y4 y5 y6 y7, LeO (accountingref08_Shares.l0 k y0 y1 y2 y3 y4 y5 y6 y7) (accountingref08_Shares.l0 (k + 1) y0 y1 y2 y3 y4 y5 y6 y7)) ∧ (∀ y0 y1 y2 y3, LeO (accountingref08_Shares.l1 k y0 y1 y2 y3) (accountingref08_Shares.l1 (k + 1) y0 y1 y2 y3)) ∧ (∀ y0 y1 y2 y3 y4 y5, LeO (accountingref08_Shares.l2 k y0 y1 y2 y3 y4 y5) (accountingref08_Shares.l2 (k + 1) y0 y1 y2 y3 y4 y5)) ∧ (∀ y0 y1 y2, LeO (accountingref08_Shares.l3 k y0 y1 y2) (accountingref08_Shares.l3 (k + 1) y0 y1 y2))
  | 0 => ⟨fun _ _ _ _ r h => by simp [accountingref08_Shares.j0] at h, fun _ _ _ _ _ _ _ _ r h => by simp [accountingref08_Shares.l0] at h, fun _ _ _ _ r h => by simp [accountingref08_Shares.l1] at h, fun _ _ _ _ _ _ r h => by simp [accountingref08_Shares.l2] at h, fun _ _ _ r h => by simp [accountingref08_Shares.l3] at h⟩
  | k + 1 => by
    obtain ⟨ih0, ih1, ih2, ih3, ih4⟩ := accountingref08_Shares.mono_l k
    refine ⟨?_, ?_, ?_, ?_, ?_⟩
    · intro y0 y1 y2 y3
      unfold accountingref08_Shares.j0
      repeat' first
      | (with_reducible exact ih0 _ _ _ _)
      | (with_reducible exact ih1 _ _ _ _ _ _ _ _)
      | (with_reducible exact ih2 _ _ _ _)
      | (with_reducible exact ih3 _ _ _ _ _ _)
      | (with_reducible exact ih4 _ _ _)
      | (with_reducible exact accountingref02_Mod.mono _ _ _ _)
      | (with_reducible exact accountingref02_MulDiv.mono _ _ _ _ _)
      | (with_reducible exact accountingref08_total.mono _ _ _)
      | (with_reducible exact LeO.refl _)
      | (with_reducible exact LeO.none _)
      | (with_reducible refine LeO.ite ?_ ?_)
      | (with_reducible refine LeO.bind ?_ (fun _ => ?_))
      | exact ih0 _ _ _ _
      | exact ih1 _ _ _ _ _ _ _ _
      | exact ih2 _ _ _ _
      | exact ih3 _ _ _ _ _ _
      | exact ih4 _ _ _
      | exact accountingref02_Mod.mono _ _ _ _
      | exact accountingref02_MulDiv.mono _ _ _ _ _
      | exact accountingref08_total.mono _ _ _
      | exact LeO.none _
      | refine LeO.ite ?_ ?_
      | refine LeO.bind ?_ (fun _ => ?_)
    · intro y0 y1 y2 y3 y4 y5 y6 y7
      unfold accountingref08_Shares.l0
      repeat' first
      | (with_reducible exact ih0 _ _ _ _)
      | (with_reducible exact ih1 _ _ _ _ _ _ _ _)
      | (with_reducible exact ih2 _ _ _ _)
      | (with_reducible exact ih3 _ _ _ _ _ _)
      | (with_reducible exact ih4 _ _ _)
      | (with_reducible exact accountingref02_Mod.mono _ _ _ _)
      | (with_reducible exact accountingref02_MulDiv.mono _ _ _ _ _)
      | (with_reducible exact accountingref08_total.mono _ _ _)
      | (with_reducible exact LeO.refl _)
      | (with_reducible exact LeO.none _)
      | (with_reducible refine LeO.ite ?_ ?_)
      | (with_reducible refine LeO.bind ?_ (fun _ => ?_))
      | exact ih0 _ _ _ _
      | exact ih1 _ _ _ _ _ _ _ _
      | exact ih2 _ _ _ _
      | exact ih3 _ _ _ _ _ _
      | exact ih4 _ _ _
      | exact accountingref02_Mod.mono _ _ _ _
      | exact accountingref02_MulDiv.mono _ _ _ _ _
      | exact accountingref08_total.mono _ _ _
      | exact LeO.none _
      | refine LeO.ite ?_ ?_
      | refine LeO.bind ?_ (fun _ => ?_)
    · intro y0 y1 y2 y3
      unfold accountingref08_Shares.l1
      repeat' first
      | (with_reducible exact ih0 _ _ _ _)
      | (with_reducible exact ih1 _ _ _ _ _ _ _ _)
      | (with_reducible exact ih2 _ _ _ _)
      | (with_reducible exact ih3 _ _ _ _ _ _)
      | (with_reducible exact ih4 _ _ _)
      | (with_reducible exact accountingref02_Mod.mono _ _ _ _)
      | (with_reducible exact accountingref02_MulDiv.mono _ _ _ _ _)
      | (with_reducible exact accountingref08_total.mono _ _ _)
      | (with_reducible exact LeO.refl _)
      | (with_reducible exact LeO.none _)
      | (with_reducible refine LeO.ite ?_ ?_)
      | (with_reducible refine LeO.bind ?_ (fun _ => ?_))
      | exact ih0 _ _ _ _
      | exact ih1 _ _ _ _ _ _ _ _
      | exact ih2 _ _ _ _
      | exact ih3 _ _ _ _ _ _
      | exact ih4 _ _ _
      | exact accountingref02_Mod.mono _ _ _ _
      | exact accountingref02_MulDiv.mono _ _ _ _ _
      | exact accountingref08_total.mono _ _ _
      | exact LeO.none _
      | refine LeO.ite ?_ ?_
      | refine LeO.bind ?_ (fun _ => ?_)
    · intro y0 y1 y2 y3 y4 y5
      unfold accountingref08_Shares.l2
      repeat' first
      | (with_reducible exact ih0 _ _ _ _)
      | (with_reducible exact ih1 _ _ _ _ _ _ _ _)
      | (with_reducible exact ih2 _ _ _ _)
      | (with_reducible exact ih3 _ _ _ _ _ _)
      | (with_reducible exact ih4 _ _ _)
      | (with_reducible exact accountingref02_Mod.mono _ _ _ _)
      | (with_reducible exact accountingref02_MulDiv.mono _ _ _ _ _)
      | (with_reducible exact accountingref08_total.mono _ _ _)
      | (with_reducible exact LeO.refl _)
      | (with_reducible exact LeO.none _)
      | (with_reducible refine LeO.ite ?_ ?_)
      | (with_reducible refine LeO.bind ?_ (fun _ => ?_))
      | exact ih0 _ _ _ _
      | exact ih1 _ _ _ _ _ _ _ _
      | exact ih2 _ _ _ _
      | exact ih3 _ _ _ _ _ _
      | exact ih4 _ _ _
      | exact accountingref02_Mod.mono _ _ _ _
      | exact accountingref02_MulDiv.mono _ _ _ _ _
      | exact accountingref08_total.mono _ _ _
      | exact LeO.none _
      | refine LeO.ite ?_ ?_
      | refine LeO.bind ?_ (fun _ => ?_)
    · intro y0 y1 y2
      unfold accountingref08_Shares.l3
      repeat' first
      | (with_reducible exact ih0 _ _ _ _)
      | (with_reducible exact ih1 _ _ _ _ _ _ _ _)
      | (with_reducible exact ih2 _ _ _ _)
      | (with_reducible exact ih3 _ _ _ _ _ _)
      | (with_reducible exact ih4 _ _ _)
      | (with_reducible exact accountingref02_Mod.mono _ _ _ _)
      | (with_reducible exact accountingref02_MulDiv.mono _ _ _ _ _)
      | (with_reducible exact accountingref08_total.mono _ _ _)
      | (with_reducible exact LeO.refl _)
      | (with_reducible exact LeO.none _)
      | (with_reducible refine LeO.ite ?_ ?_)
      | (with_reducible refine LeO.bind ?_ (fun _ => ?_))
      | exact ih0 _ _ _ _
      | exact ih1 _ _ _ _ _ _ _ _
      | exact ih2 _ _ _ _
      | exact ih3 _ _ _ _ _ _
      | exact ih4 _ _ _
      | exact accountingref02_Mod.mono _ _ _ _
      | exact accountingref02_MulDiv.mono _ _ _ _ _
      | exact accountingref08_total.mono _ _ _
      | exact LeO.none _
      | refine LeO.ite ?_ ?_
      | refine LeO.bind ?_ (fun _ => ?_)
theorem accountingref08_Shares.mono : ∀ a0 a1 k, LeO (accountingref08_Shares.f k a0 a1) (accountingref08_Shares.f (k + 1) a0 a1) := by
 intro a0 a1 k
 obtain ⟨ih0, ih1, ih2, ih3, ih4⟩ := accountingref08_Shares.mono_l k
 unfold accountingref08_Shares.f
 repeat' first
   | (with_reducible exact ih0 _ _ _ _)
   | (with_reducible exact ih1 _ _ _ _ _ _ _ _)
   | (with_reducible exact ih2 _ _ _ _)
   | (with_reducible exact ih3 _ _ _ _ _ _)
   | (with_reducible exact ih4 _ _ _)
   | (with_reducible exact accountingref02_Mod.mono _ _ _ _)
   | (with_reducible exact accountingref02_MulDiv.mono _ _ _ _ _)
   | (with_reducible exact accountingref08_total.mono _ _ _)
   | (with_reducible exact LeO.refl _)
   | (with_reducible exact LeO.none _)
   | (with_reducible refine LeO.ite ?_ ?_)
   | (with_reducible refine LeO.bind ?_ (fun _ => ?_))
   | exact ih0 _ _ _ _
   | exact ih1 _ _ _ _ _ _ _ _
   | exact ih2 _ _ _ _
   | exact ih3 _ _ _ _ _ _
   | exact ih4 _ _ _
   | exact accountingref02_Mod.mono _ _ _ _
   | exact accountingref02_MulDiv.mono _ _ _ _ _
   | exact accountingref08_total.mono _ _ _
   | exact LeO.none _
   | refine LeO.ite ?_ ?_
   | refine LeO.bind ?_ (fun _ => ?_)
set_option maxHeartbeats 8000000 in
set_option maxRecDepth 100000 in
theorem accountingref08_Shares.calls (k : Nat) (a0 : Int) (A1 : Option Addr) (c1 : Nat) (l1 : List Int) (r1 : List Int) (r2 : Int) (w : World) (hr1 : Kd.C (Kd.int .i64) w A1 l1.length l1) (hc1 : l1.length ≤ c1) (h : accountingref08_Shares.f k a0 l1 = some (r1, r2)) :
    Calls Try.prog 14 #[.int .i64 a0, .slice A1 l1.length c1] w fun e w' => ∃ v0_ : Value, e = .returned (.tuple #[v0_, .int .i64 r2]) ∧ Kd.R (Kd.int .i64) 3 w' w.heap.size (fun _ => True) v0_ r1 ∧ Below w.heap.size w w' := by
 have hu3 := Try.underlying3
 have HR1 := Aside0.mk hr1
 have HC1 := Aside0.mk hc1
 clear hr1 hc1
 have HB := Aside0.mk (Below.refl w.heap.size w)
 have H : ((accountingref08_total.f k a0 l1).bind fun bt101 => (if bt101.2 = 0 then (if a0 < 0 then (accountingref08_Shares.j0 k a0 l1 bt101.1 (wrap64 (-a0))) else (accountingref08_Shares.j0 k a0 l1 bt101.1 a0)) else (some (([] : List Int), bt101.2)))) = some (r1, r2) := h
 clear h
 replace H := Option.bind_eq_some_iff.mp H
 obtain ⟨⟨t101, t102⟩, A30, H⟩ := H
 replace H : (if t102 = 0 then (if a0 < 0 then (accountingref08_Shares.j0 k a0 l1 t101 (wrap64 (-a0))) else (accountingref08_Shares.j0 k a0 l1 t101 a0)) else (some (([] : List Int), t102))) = some (r1, r2) := H
 have A3 := Aside0.mk A30
 clear A30
 by_cases c4 : t102 = 0
 ·rw [if_pos c4] at H
  have c4b0 : (t102 == 0) = true := beq_iff_eq.mpr c4
  have c4b1 : (t102 != 0) = false := bne_eq_false_iff_eq.mpr c4
  clear c4
  have HC5 := Aside0.mk H
  clear H
  go_enter Try.func14, Try.ntmps14
  go_upto_if 31 with (first | (go_at_call 23; (with_reducible refine (accountingref08_total.calls k a0 _ _ l1 t101 t102 _ ?side1 ?side2 A3.out).mono ?_); (case side1 => repeat (first | exact HR1.out | (with_reducible refine Kd.C_alloc ?_ _) | (with_reducible refine Kd.C_drewN ?_ _) | (with_reducible refine Kd.C_drew ?_))); (case side2 => exact HC1.out); rintro e w' ⟨rfl, ⟨nd, rfl⟩⟩; (try first | exact ⟨rfl, _, World.drewN_drewN _ _ _⟩ | exact ⟨rfl, _, Eq.trans (World.drewN_drewN _ _ _) (congrArg (World.drewN _) (Nat.add_assoc _ _ _))⟩)))
  repeat (go_quiet (first | (go_at_call 23; (with_reducible refine (accountingref08_total.calls k a0 _ _ l1 t101 t102 _ ?side1 ?side2 A3.out).mono ?_); (case side1 => repeat (first | exact HR1.out | (with_reducible refine Kd.C_alloc ?_ _) | (with_reducible refine Kd.C_drewN ?_ _) | (with_reducible refine Kd.C_drew ?_))); (case side2 => exact HC1.out); rintro e w' ⟨rfl, ⟨nd, rfl⟩⟩; (try first | exact ⟨rfl, _, World.drewN_drewN _ _ _⟩ | exact ⟨rfl, _, Eq.trans (World.drewN_drewN _ _ _) (congrArg (World.drewN _) (Nat.add_assoc _ _ _))⟩))); go_upto_if 31 with (first | (go_at_call 23; (with_reducible refine (accountingref08_total.calls k a0 _ _ l1 t101 t102 _ ?side1 ?side2 A3.out).mono ?_); (case side1 => repeat (first | exact HR1.out | (with_reducible refine Kd.C_alloc ?_ _) | (with_reducible refine Kd.C_drewN ?_ _) | (with_reducible refine Kd.C_drew ?_))); (case side2 => exact HC1.out); rintro e w' ⟨rfl, ⟨nd, rfl⟩⟩; (try first | exact ⟨rfl, _, World.drewN_drewN _ _ _⟩ | exact ⟨rfl, _, Eq.trans (World.drewN_drewN _ _ _) (congrArg (World.drewN _) (Nat.add_assoc _ _ _))⟩))))
  (try simp only [Act.put, List.setIfInBounds_toArray, List.set_cons_zero, List.set_cons_succ])
  go_cut [8] (fun v8 wc => ∃ (kq : Nat) (x8_4 : Int), v8 = .int .i64 x8_4 ∧ Aside0 (accountingref08_Shares.j0 kq a0 l1 t101 x8_4 = some (r1, r2)) ∧ Aside0 (kq ≤ k) ∧ Aside0 (Below w.heap.size w wc))
  case first =>
   have H := HC5.out
   clear HC5
   by_cases c6 : a0 < 0
   ·rw [if_pos c6] at H
    have c6b0 : decide (a0 < 0) = true := decide_eq_true c6
    clear c6
    (first | rw [c6b0] | (simp only [i64_w, i32_w]; rw [c6b0]) | skip)
    have H' := Aside0.mk H
    clear H
    go_wp2
    repeat (go_quiet (fail); try go_wp2)
    go_meet
    case rel => exact ⟨_, (wrap64 (-a0)), (by first | rfl | (simp; done) | (simp [*]; done)), H', ⟨by first | omega | exact Nat.le_refl _⟩, ⟨by repeat (first | (with_reducible first | exact HB.out | apply below_alloc | apply pw_below_drewN | apply below_drew1) | exact HB.out)⟩⟩
   ·rw [if_neg c6] at H
    have c6b0 : decide (a0 < 0) = false := decide_eq_false c6
    clear c6
    (first | rw [c6b0] | (simp only [i64_w, i32_w]; rw [c6b0]) | skip)
    have H' := Aside0.mk H
    clear H
    go_wp2
    repeat (go_quiet (fail); try go_wp2)
    go_meet
    case rel => exact ⟨_, (a0), (by first | rfl | (simp; done) | (simp [*]; done)), H', ⟨by first | omega | exact Nat.le_refl _⟩, ⟨by repeat (first | (with_reducible first | exact HB.out | apply below_alloc | apply pw_below_drewN | apply below_drew1) | exact HB.out)⟩⟩
  case rest =>
   clear HC5
   try clear c1
   try clear p2
   try clear c4
   try clear c4b0
   try clear c4b1
   try clear c6
   try clear c6b0
   try clear p6
   obtain ⟨kq, x8_4, rfl, HA, HJ4, HB⟩ := hcut
   cases kq with
   | zero => exact absurd HA.out (by simp [accountingref08_Shares.j0])
   | succ kj4 =>
    have H := HA.out
    clear HA
    simp only [accountingref08_Shares.j0] at H
    by_cases c7 : 0 ≤ (l1.length : Int)
    ·rw [if_pos c7] at H
     have c7b0 := eq_true c7
     have c7b1 : decide (0 ≤ (l1.length : Int)) = true := decide_eq_true c7
     clear c7
     by_cases c8 : ((l1.length : Int) : Int).toNat ≤ 35184372088832
     ·rw [if_pos c8] at H
      have c8b0 := eq_true c8
      have c8b1 : decide (((l1.length : Int) : Int).toNat ≤ 35184372088832) = true := decide_eq_true c8
      clear c8
      obtain ⟨y103, hy103⟩ : ∃ y_ : List Int, y_ = (List.replicate ((l1.length : Int) : Int).toNat 0) := ⟨_, rfl⟩
      replace H : (accountingref08_Shares.l0 kj4 a0 l1 t101 x8_4 y103 (List.replicate ((l1.length : Int) : Int).toNat 0) x8_4 0) = some (r1, r2) := by first | (rw [hy103]; with_reducible exact H) | (have H2_ := (Option.bind_some _ _).symm.trans H; rw [hy103]; with_reducible exact H2_) | (have H2_ := (Option.bind_some _ _).symm.trans H; with_reducible exact H2_) | with_reducible exact H | (rw [hy103]; exact H) | exact H
      have Ny103 := Aside0.mk hy103
      clear hy103
      obtain ⟨y106, hy106⟩ : ∃ y_ : List Int, y_ = (List.replicate ((l1.length : Int) : Int).toNat 0) := ⟨_, rfl⟩
      replace H : (accountingref08_Shares.l0 kj4 a0 l1 t101 x8_4 y103 y106 x8_4 0) = some (r1, r2) := by first | (rw [hy106]; with_reducible exact H) | (have H2_ := (Option.bind_some _ _).symm.trans H; rw [hy106]; with_reducible exact H2_) | (have H2_ := (Option.bind_some _ _).symm.trans H; with_reducible exact H2_) | with_reducible exact H | (rw [hy106]; exact H) | exact H
      have Ny106 := Aside0.mk hy106
      clear hy106
      have H' := Aside0.mk H
      clear H
      go_wp2_with (first | ((with_reducible refine gate_dst (N := 36) rfl ?_); refine Kd.R_make (Kd.int .i64) _ 3 rfl (N := 36) rfl 22 _ _ rfl (l1.length : Int) rfl rfl Try.underlying22 (.int .i64 0) 8 info3 rfl (by decide) (by omega) 0 (ok := fun _ => True) (okp := fun _ => True) rfl (fun _ hk => hk) trivial (of_decide_eq_true (by first | (with_reducible assumption) | assumption)) (Nat.le_trans (Nat.mul_le_mul_right _ (of_decide_eq_true (by first | (with_reducible assumption) | assumption) : (l1.length : Int).toNat ≤ 35184372088832)) (by omega)) (Below.refl _ _) (Nat.le_refl _) ?_; intro v104 w9 ho10 hb hg_ hnew_; clear hg_ hnew_; (first | rw [← Ny103.out] at ho10 | (simp only [Int.reduceToNat] at ho10; rw [← Ny103.out] at ho10)); have n0_ := Aside0.mk (Kd.R_lower ho10 (below_size (by repeat (first | (with_reducible first | exact HB.out | apply below_alloc | apply pw_below_drewN | apply below_drew1) | exact HB.out)))); have n1_ := Aside0.mk (below_step (by repeat (first | (with_reducible first | exact HB.out | apply below_alloc | apply pw_below_drewN | apply below_drew1) | exact HB.out)) hb); clear HB; have HO105 := n0_; have HB := n1_; clear n0_ n1_; clear hb ho10) | ((with_reducible refine gate_dst (N := 39) rfl ?_); refine Kd.R_make (Kd.int .i64) _ 3 rfl (N := 39) rfl 22 _ _ rfl (l1.length : Int) rfl rfl Try.underlying22 (.int .i64 0) 8 info3 rfl (by decide) (by omega) 0 (ok := fun _ => True) (okp := fun _ => True) rfl (fun _ hk => hk) trivial (of_decide_eq_true (by first | (with_reducible assumption) | assumption)) (Nat.le_trans (Nat.mul_le_mul_right _ (of_decide_eq_true (by first | (with_reducible assumption) | assumption) : (l1.length : Int).toNat ≤ 35184372088832)) (by omega)) (Below.refl _ _) (Nat.le_refl _) ?_; intro v107 w11 ho12 hb hg_ hnew_; clear hg_ hnew_; (first | rw [← Ny106.out] at ho12 | (simp only [Int.reduceToNat] at ho12; rw [← Ny106.out] at ho12)); have n0_ := Aside0.mk (Kd.R_elder' (by (with_reducible repeat (first | apply Kd.R_alloc | apply Kd.R_drewN | apply Kd.R_drew)); exact HO105.out) (Kd.R_base ho12) hb); have n1_ := Aside0.mk (Kd.R_lower (Kd.R_new' ho12 (Kd.R_lt (by (with_reducible repeat (first | apply Kd.R_alloc | apply Kd.R_drewN | apply Kd.R_drew)); exact HO105.out))) (below_size (by repeat (first | (with_reducible first | exact HB.out | apply below_alloc | apply pw_below_drewN | apply below_drew1) | exact HB.out)))); have n2_ := Aside0.mk (below_step (by repeat (first | (with_reducible first | exact HB.out | apply below_alloc | apply pw_below_drewN | apply below_drew1) | exact HB.out)) hb); clear HO105; clear HB; have HO105 := n0_; have HO108 := n1_; have HB := n2_; clear n0_ n1_ n2_; clear hb ho12))
      repeat (go_quiet (first | ((with_reducible refine gate_dst (N := 36) rfl ?_); refine Kd.R_make (Kd.int .i64) _ 3 rfl (N := 36) rfl 22 _ _ rfl (l1.length : Int) rfl rfl Try.underlying22 (.int .i64 0) 8 info3 rfl (by decide) (by omega) 0 (ok := fun _ => True) (okp := fun _ => True) rfl (fun _ hk => hk) trivial (of_decide_eq_true (by first | (with_reducible assumption) | assumption)) (Nat.le_trans (Nat.mul_le_mul_right _ (of_decide_eq_true (by first | (with_reducible assumption) | assumption) : (l1.length : Int).toNat ≤ 35184372088832)) (by omega)) (Below.refl _ _) (Nat.le_refl _) ?_; intro v104 w9 ho10 hb hg_ hnew_; clear hg_ hnew_; (first | rw [← Ny103.out] at ho10 | (simp only [Int.reduceToNat] at ho10; rw [← Ny103.out] at ho10)); have n0_ := Aside0.mk (Kd.R_lower ho10 (below_size (by repeat (first | (with_reducible first | exact HB.out | apply below_alloc | apply pw_below_drewN | apply below_drew1) | exact HB.out)))); have n1_ := Aside0.mk (below_step (by repeat (first | (with_reducible first | exact HB.out | apply below_alloc | apply pw_below_drewN | apply below_drew1) | exact HB.out)) hb); clear HB; have HO105 := n0_; have HB := n1_; clear n0_ n1_; clear hb ho10) | ((with_reducible refine gate_dst (N := 39) rfl ?_); refine Kd.R_make (Kd.int .i64) _ 3 rfl (N := 39) rfl 22 _ _ rfl (l1.length : Int) rfl rfl Try.underlying22 (.int .i64 0) 8 info3 rfl (by decide) (by omega) 0 (ok := fun _ => True) (okp := fun _ => True) rfl (fun _ hk => hk) trivial (of_decide_eq_true (by first | (with_reducible assumption) | assumption)) (Nat.le_trans (Nat.mul_le_mul_right _ (of_decide_eq_true (by first | (with_reducible assumption) | assumption) : (l1.length : Int).toNat ≤ 35184372088832)) (by omega)) (Below.refl _ _) (Nat.le_refl _) ?_; intro v107 w11 ho12 hb hg_ hnew_; clear hg_ hnew_; (first | rw [← Ny106.out] at ho12 | (simp only [Int.reduceToNat] at ho12; rw [← Ny106.out] at ho12)); have n0_ := Aside0.mk (Kd.R_elder' (by (with_reducible repeat (first | apply Kd.R_alloc | apply Kd.R_drewN | apply Kd.R_drew)); exact HO105.out) (Kd.R_base ho12) hb); have n1_ := Aside0.mk (Kd.R_lower (Kd.R_new' ho12 (Kd.R_lt (by (with_reducible repeat (first | apply Kd.R_alloc | apply Kd.R_drewN | apply Kd.R_drew)); exact HO105.out))) (below_size (by repeat (first | (with_reducible first | exact HB.out | apply below_alloc | apply pw_below_drewN | apply below_drew1) | exact HB.out)))); have n2_ := Aside0.mk (below_step (by repeat (first | (with_reducible first | exact HB.out | apply below_alloc | apply pw_below_drewN | apply below_drew1) | exact HB.out)) hb); clear HO105; clear HB; have HO105 := n0_; have HO108 := n1_; have HB := n2_; clear n0_ n1_ n2_; clear hb ho12)); try go_wp2_with (first | ((with_reducible refine gate_dst (N := 36) rfl ?_); refine Kd.R_make (Kd.int .i64) _ 3 rfl (N := 36) rfl 22 _ _ rfl (l1.length : Int) rfl rfl Try.underlying22 (.int .i64 0) 8 info3 rfl (by decide) (by omega) 0 (ok := fun _ => True) (okp := fun _ => True) rfl (fun _ hk => hk) trivial (of_decide_eq_true (by first | (with_reducible assumption) | assumption)) (Nat.le_trans (Nat.mul_le_mul_right _ (of_decide_eq_true (by first | (with_reducible assumption) | assumption) : (l1.length : Int).toNat ≤ 35184372088832)) (by omega)) (Below.refl _ _) (Nat.le_refl _) ?_; intro v104 w9 ho10 hb hg_ hnew_; clear hg_ hnew_; (first | rw [← Ny103.out] at ho10 | (simp only [Int.reduceToNat] at ho10; rw [← Ny103.out] at ho10)); have n0_ := Aside0.mk (Kd.R_lower ho10 (below_size (by repeat (first | (with_reducible first | exact HB.out | apply below_alloc | apply pw_below_drewN | apply below_drew1) | exact HB.out)))); have n1_ := Aside0.mk (below_step (by repeat (first | (with_reducible first | exact HB.out | apply below_alloc | apply pw_below_drewN | apply below_drew1) | exact HB.out)) hb); clear HB; have HO105 := n0_; have HB := n1_; clear n0_ n1_; clear hb ho10) | ((with_reducible refine gate_dst (N := 39) rfl ?_); refine Kd.R_make (Kd.int .i64) _ 3 rfl (N := 39) rfl 22 _ _ rfl (l1.length : Int) rfl rfl Try.underlying22 (.int .i64 0) 8 info3 rfl (by decide) (by omega) 0 (ok := fun _ => True) (okp := fun _ => True) rfl (fun _ hk => hk) trivial (of_decide_eq_true (by first | (with_reducible assumption) | assumption)) (Nat.le_trans (Nat.mul_le_mul_right _ (of_decide_eq_true (by first | (with_reducible assumption) | assumption) : (l1.length : Int).toNat ≤ 35184372088832)) (by omega)) (Below.refl _ _) (Nat.le_refl _) ?_; intro v107 w11 ho12 hb hg_ hnew_; clear hg_ hnew_; (first | rw [← Ny106.out] at ho12 | (simp only [Int.reduceToNat] at ho12; rw [← Ny106.out] at ho12)); have n0_ := Aside0.mk (Kd.R_elder' (by (with_reducible repeat (first | apply Kd.R_alloc | apply Kd.R_drewN | apply Kd.R_drew)); exact HO105.out) (Kd.R_base ho12) hb); have n1_ := Aside0.mk (Kd.R_lower (Kd.R_new' ho12 (Kd.R_lt (by (with_reducible repeat (first | apply Kd.R_alloc | apply Kd.R_drewN | apply Kd.R_drew)); exact HO105.out))) (below_size (by repeat (first | (with_reducible first | exact HB.out | apply below_alloc | apply pw_below_drewN | apply below_drew1) | exact HB.out)))); have n2_ := Aside0.mk (below_step (by repeat (first | (with_reducible first | exact HB.out | apply below_alloc | apply pw_below_drewN | apply below_drew1) | exact HB.out)) hb); clear HO105; clear HB; have HO105 := n0_; have HO108 := n1_; have HB := n2_; clear n0_ n1_ n2_; clear hb ho12)))
      go_loopg [11, 12] kj4 (fun kq v11 v12 w' => ∃ (x9_2 : List Int) (x10_2 : List Int) (x11_2 : Int) (x12_2 : Int), v11 = .int .i64 x11_2 ∧ v12 = .int .i64 x12_2 ∧ Aside0 (accountingref08_Shares.l0 kq a0 l1 t101 x8_4 x9_2 x10_2 x11_2 x12_2 = some (r1, r2)) ∧ Aside0 (kq ≤ kj4) ∧ Aside0 (Kd.R (Kd.int .i64) 3 w' w.heap.size (fun k_ => some k_ ≠ (v107 : Value).ownBlock) v104 x9_2) ∧ Aside0 (Kd.R (Kd.int .i64) 3 w' w.heap.size (fun k_ => some k_ ≠ (v104 : Value).ownBlock) v107 x10_2) ∧ Aside0 (Below w.heap.size w w'))
      case atStart => exact ⟨(y103), (y106), (x8_4), (0), (by first | rfl | (simp; done) | (simp [*]; done)), (by first | rfl | (simp; done) | (simp [*]; done)), H', ⟨Nat.le_refl _⟩, ⟨by (with_reducible repeat (first | apply Kd.R_alloc | apply Kd.R_drewN | apply Kd.R_drew)); exact Kd.R_mono HO105.out (fun _ hk => hk.2)⟩, ⟨by (with_reducible repeat (first | apply Kd.R_alloc | apply Kd.R_drewN | apply Kd.R_drew)); exact Kd.R_mono HO108.out (fun _ hk => hk.2)⟩, ⟨by repeat (first | (with_reducible first | exact HB.out | apply below_alloc | apply pw_below_drewN | apply below_drew1) | exact HB.out)⟩⟩
      case round =>
       clear H'
       try clear c1
       try clear p2
       try clear c4
       try clear c4b0
       try clear c4b1
       try clear c6
       try clear c6b0
       try clear p6
       try clear c7
       try clear c7b0
       try clear c7b1
       try clear c8
       try clear c8b0
       try clear c8b1
       try clear p2
       try clear p6
       obtain ⟨x9_2, x10_2, x11_2, x12_2, rfl, rfl, HA, HK2, HO_9, HO_10, HB⟩ := hrel
       cases gk with
       | zero => exact absurd HA.out (by simp [accountingref08_Shares.l0])
       | succ k2 =>
        have H := HA.out
        clear HA
        simp only [accountingref08_Shares.l0] at H
        by_cases c13 : x12_2 < (l1.length : Int)
        ·rw [if_pos c13] at H
         have c13b0 : decide (x12_2 < (l1.length : Int)) = true := decide_eq_true c13
         clear c13
         by_cases c14 : 0 ≤ x12_2
         ·rw [if_pos c14] at H
          have c14b0 : decide (0 ≤ x12_2) = true := decide_eq_true c14
          clear c14
          replace H := Option.bind_eq_some_iff.mp H
          obtain ⟨⟨t110, t111⟩, A150, H⟩ := H
          replace H : ((accountingref02_Mod.f k2 x8_4 (rd l1 x12_2) t101).bind fun bt113 => (if x12_2 < (x9_2.length : Int) then ((some (x9_2.set (x12_2 : Int).toNat t110 : List Int)).bind fun y115 => (if x12_2 < (x10_2.length : Int) then (accountingref08_Shares.l0 k2 a0 l1 t101 x8_4 y115 (x10_2.set (x12_2 : Int).toNat bt113.1) (wrap64 (x11_2 - (rd y115 x12_2))) (wrap64 (x12_2 + 1))) else (none))) else (none))) = some (r1, r2) := H
          have A15 := Aside0.mk A150
          clear A150
          replace H := Option.bind_eq_some_iff.mp H
          obtain ⟨⟨t113, t114⟩, A160, H⟩ := H
          replace H : (if x12_2 < (x9_2.length : Int) then ((some (x9_2.set (x12_2 : Int).toNat t110 : List Int)).bind fun y115 => (if x12_2 < (x10_2.length : Int) then (accountingref08_Shares.l0 k2 a0 l1 t101 x8_4 y115 (x10_2.set (x12_2 : Int).toNat t113) (wrap64 (x11_2 - (rd y115 x12_2))) (wrap64 (x12_2 + 1))) else (none))) else (none)) = some (r1, r2) := H
          have A16 := Aside0.mk A160
          clear A160
          by_cases c17 : x12_2 < (x9_2.length : Int)
          ·rw [if_pos c17] at H
           have c17b0 : decide (x12_2 < (x9_2.length : Int)) = true := decide_eq_true c17
           clear c17
           obtain ⟨y115, hy115⟩ : ∃ y_ : List Int, y_ = (x9_2.set (x12_2 : Int).toNat t110) := ⟨_, rfl⟩
           replace H : (if x12_2 < (x10_2.length : Int) then (accountingref08_Shares.l0 k2 a0 l1 t101 x8_4 y115 (x10_2.set (x12_2 : Int).toNat t113) (wrap64 (x11_2 - (rd y115 x12_2))) (wrap64 (x12_2 + 1))) else (none)) = some (r1, r2) := by first | (rw [hy115]; with_reducible exact H) | (have H2_ := (Option.bind_some _ _).symm.trans H; rw [hy115]; with_reducible exact H2_) | (have H2_ := (Option.bind_some _ _).symm.trans H; with_reducible exact H2_) | with_reducible exact H | (rw [hy115]; exact H) | exact H
           have Ny115 := Aside0.mk hy115
           clear hy115
           by_cases c19 : x12_2 < (x10_2.length : Int)
           ·rw [if_pos c19] at H
            have c19b0 : decide (x12_2 < (x10_2.length : Int)) = true := decide_eq_true c19
            clear c19
            obtain ⟨y116, hy116⟩ : ∃ y_ : List Int, y_ = (x10_2.set (x12_2 : Int).toNat t113) := ⟨_, rfl⟩
            replace H : (accountingref08_Shares.l0 k2 a0 l1 t101 x8_4 y115 y116 (wrap64 (x11_2 - (rd y115 x12_2))) (wrap64 (x12_2 + 1))) = some (r1, r2) := by first | (rw [hy116]; with_reducible exact H) | (have H2_ := (Option.bind_some _ _).symm.trans H; rw [hy116]; with_reducible exact H2_) | (have H2_ := (Option.bind_some _ _).symm.trans H; with_reducible exact H2_) | with_reducible exact H | (rw [hy116]; exact H) | exact H
            have Ny116 := Aside0.mk hy116
            clear hy116
            have H' := Aside0.mk H
            clear H
            have p109 : 0 ≤ (x12_2 : Int) := of_decide_eq_true (by first | (with_reducible assumption) | assumption)
            have q109 : x12_2 < (l1.length : Int) := of_decide_eq_true (by first | (with_reducible assumption) | assumption)
            obtain ⟨ad109, e109, hx109_0⟩ := Kd.at_int HR1.out x12_2 p109 q109
            cases e109
            replace hx109_0 := (HB.out.cell (World.block_lt_of_cell? w _ hx109_0)).trans hx109_0
            replace p109 := eq_true p109
            replace q109 := eq_true q109
            go_wp2_with (first | (go_at_call 24; (with_reducible refine (accountingref02_MulDiv.calls k2 x8_4 (rd l1 x12_2) t101 1 t110 t111 _ A15.out).mono ?_); rintro e w' ⟨rfl, ⟨nd, rfl⟩⟩; (try first | exact ⟨rfl, _, World.drewN_drewN _ _ _⟩ | exact ⟨rfl, _, Eq.trans (World.drewN_drewN _ _ _) (congrArg (World.drewN _) (Nat.add_assoc _ _ _))⟩); have p112 : 0 ≤ (x12_2 : Int) := of_decide_eq_true (by first | (with_reducible assumption) | assumption); have q112 : x12_2 < (l1.length : Int) := of_decide_eq_true (by first | (with_reducible assumption) | assumption); obtain ⟨ad112, e112, hx112_0⟩ := Kd.at_int HR1.out x12_2 p112 q112; obtain rfl : ad109 = ad112 := (by injection e112); replace hx112_0 := (HB.out.cell (World.block_lt_of_cell? w _ hx112_0)).trans hx112_0; replace p112 := eq_true p112; replace q112 := eq_true q112) | (go_at_call 25; (with_reducible refine (accountingref02_Mod.calls k2 x8_4 (rd l1 x12_2) t101 t113 t114 _ A16.out).mono ?_); rintro e w' ⟨rfl, ⟨nd, rfl⟩⟩; (try first | exact ⟨rfl, _, World.drewN_drewN _ _ _⟩ | exact ⟨rfl, _, Eq.trans (World.drewN_drewN _ _ _) (congrArg (World.drewN _) (Nat.add_assoc _ _ _))⟩); have p18 : 0 ≤ (x12_2 : Int) := of_decide_eq_true (by first | (with_reducible assumption) | assumption); have q18 : (x12_2 : Int) < ((x9_2.length : Int) : Int) := of_decide_eq_true (by first | (with_reducible assumption) | assumption); obtain ⟨go18, co18, eo18, gb18, gl18, cl18, HG18⟩ := Kd.R_form HO_9.out (by omega); (first | cases eo18 | (injection eo18 with ea_ en_ ec_; (first | subst ea_ | (injection ea_ with ea_; subst ea_)); subst ec_; clear en_)); have GB18 := Aside0.mk gb18; have GG18 := Aside0.mk HG18; clear gb18 gl18 HG18; obtain ⟨hx18_0, hf18_0⟩ := Kd.R_celln 0 HO_9.out (x12_2 : Int) p18 q18; replace p18 := eq_true p18; replace q18 := eq_true q18; obtain ⟨hy21_, hz21_⟩ := Kd.R_celln 0 HO_9.out (x12_2 : Int) (of_decide_eq_true (by first | (with_reducible assumption) | assumption)) (of_decide_eq_true (by first | (with_reducible assumption) | assumption)); have HP21 := Kd.R_putg HO_9.out (x12_2 : Int) t110) | ((with_reducible refine gate_store (t := 3) (p := 70) rfl ?_); (try (rw [drewN_self wr]; generalize hq_ : World.drewN wr _ = wr; have n0_ := Aside0.mk (Kd.R_at hq_ HO_9.out); have n1_ := Aside0.mk (Kd.R_at hq_ HO_10.out); have n2_ := Aside0.mk (below_at hq_ HB.out); clear hq_ HO_9 HO_10 HB; have HO_9 := n0_; have HO_10 := n1_; have HB := n2_; clear n0_ n1_ n2_; (try (obtain ⟨hy21_, hz21_⟩ := Kd.R_celln 0 HO_9.out (x12_2 : Int) (of_decide_eq_true (by first | (with_reducible assumption) | assumption)) (of_decide_eq_true (by first | (with_reducible assumption) | assumption)))); (try (have HP21 := Kd.R_putg HO_9.out (x12_2 : Int) t110)))); refine store_event (t := 3) (p := 70) (v := ?vo_w22) (w1 := (wr.setCell ⟨go18, (x12_2 : Int).toNat, none⟩ (.int .i64 t110))) ?hg ?ho ?hn ?hr ?_; (case ho => rfl); (case hg => rfl); (case hn => rfl); (case hr => first | (go_simp; done) | (go_simp; rfl)); intro w22 hw; have hg : wr.grownBy w22 (some go18) := (by rw [hw]; exact HP21.2); have hp_ : Kd.R (Kd.int .i64) 3 w22 w.heap.size (fun k_ => some k_ ≠ (v107 : Value).ownBlock) (.slice (some ⟨go18, 0, none⟩) x9_2.length co18) y115 := (by rw [hw, Ny115.out]; exact HP21.1); clear HP21; have n0_ := Aside0.mk (hp_); have n1_ := Aside0.mk (Kd.R_after (v := (.slice (some ⟨go18, 0, none⟩) x9_2.length co18)) (v1 := (.slice (some ⟨go18, 0, none⟩) x9_2.length co18)) (ok := (fun _ => True)) (by (with_reducible repeat (first | apply Kd.R_alloc | apply Kd.R_drewN | apply Kd.R_drew)); exact Kd.R_mono HO_10.out (fun _ hk => ⟨trivial, hk⟩)) hg (.inl rfl)); have n2_ := Aside0.mk ((by rw [hw]; exact below_set (HB.out) GB18.out : Below w.heap.size w w22)); clear HO_9; clear HO_10; clear HB; have HO_9 := n0_; have HO_10 := n1_; have HB := n2_; clear n0_ n1_ n2_; clear hg hw hp_; have p20 : 0 ≤ (x12_2 : Int) := of_decide_eq_true (by first | (with_reducible assumption) | assumption); have q20 : (x12_2 : Int) < ((x10_2.length : Int) : Int) := of_decide_eq_true (by first | (with_reducible assumption) | assumption); obtain ⟨go20, co20, eo20, gb20, gl20, cl20, HG20⟩ := Kd.R_form HO_10.out (by omega); (first | cases eo20 | (injection eo20 with ea_ en_ ec_; (first | subst ea_ | (injection ea_ with ea_; subst ea_)); subst ec_; clear en_)); have GB20 := Aside0.mk gb20; have GG20 := Aside0.mk HG20; clear gb20 gl20 HG20; obtain ⟨hx20_0, hf20_0⟩ := Kd.R_celln 0 HO_10.out (x12_2 : Int) p20 q20; replace p20 := eq_true p20; replace q20 := eq_true q20; have n_ := Aside0.mk (Kd.R_mono (ok' := (fun k_ => some k_ ≠ (.slice (some ⟨go18, 0, none⟩) x9_2.length co18 : Value).ownBlock)) HO_10.out (fun k_ hk => hk.2)); clear HO_10; have HO_10 := n_; clear n_; obtain ⟨hy23_, hz23_⟩ := Kd.R_celln 0 HO_10.out (x12_2 : Int) (of_decide_eq_true (by first | (with_reducible assumption) | assumption)) (of_decide_eq_true (by first | (with_reducible assumption) | assumption)); have HP23 := Kd.R_putg HO_10.out (x12_2 : Int) t113) | ((with_reducible refine gate_store (t := 3) (p := 74) rfl ?_); (try (rw [drewN_self w22]; generalize hq_ : World.drewN w22 _ = w22; have n0_ := Aside0.mk (Kd.R_at hq_ HO_9.out); have n1_ := Aside0.mk (Kd.R_at hq_ HO_10.out); have n2_ := Aside0.mk (below_at hq_ HB.out); clear hq_ HO_9 HO_10 HB; have HO_9 := n0_; have HO_10 := n1_; have HB := n2_; clear n0_ n1_ n2_; (try (have n_ := Aside0.mk (Kd.R_mono (ok' := (fun k_ => some k_ ≠ (.slice (some ⟨go18, 0, none⟩) x9_2.length co18 : Value).ownBlock)) HO_10.out (fun k_ hk => hk.2)); clear HO_10; have HO_10 := n_; clear n_)); (try (obtain ⟨hy23_, hz23_⟩ := Kd.R_celln 0 HO_10.out (x12_2 : Int) (of_decide_eq_true (by first | (with_reducible assumption) | assumption)) (of_decide_eq_true (by first | (with_reducible assumption) | assumption)))); (try (have HP23 := Kd.R_putg HO_10.out (x12_2 : Int) t113)))); refine store_event (t := 3) (p := 74) (v := ?vo_w24) (w1 := (w22.setCell ⟨go20, (x12_2 : Int).toNat, none⟩ (.int .i64 t113))) ?hg ?ho ?hn ?hr ?_; (case ho => rfl); (case hg => rfl); (case hn => rfl); (case hr => first | (go_simp; done) | (go_simp; rfl)); intro w24 hw; have hg : w22.grownBy w24 (some go20) := (by rw [hw]; exact HP23.2); have hp_ : Kd.R (Kd.int .i64) 3 w24 w.heap.size (fun k_ => some k_ ≠ (.slice (some ⟨go18, 0, none⟩) x9_2.length co18 : Value).ownBlock) (.slice (some ⟨go20, 0, none⟩) x10_2.length co20) y116 := (by rw [hw, Ny116.out]; exact HP23.1); clear HP23; have n0_ := Aside0.mk (Kd.R_after (v := (.slice (some ⟨go20, 0, none⟩) x10_2.length co20)) (v1 := (.slice (some ⟨go20, 0, none⟩) x10_2.length co20)) (ok := (fun _ => True)) (by (with_reducible repeat (first | apply Kd.R_alloc | apply Kd.R_drewN | apply Kd.R_drew)); exact Kd.R_mono HO_9.out (fun _ hk => ⟨trivial, hk⟩)) hg (.inl rfl)); have n1_ := Aside0.mk (hp_); have n2_ := Aside0.mk ((by rw [hw]; exact below_set (HB.out) GB20.out : Below w.heap.size w w24)); clear HO_9; clear HO_10; clear HB; have HO_9 := n0_; have HO_10 := n1_; have HB := n2_; clear n0_ n1_ n2_; clear hg hw hp_; have p117 : 0 ≤ (x12_2 : Int) := of_decide_eq_true (by first | (with_reducible assumption) | assumption); have q117 : x12_2 < (y115.length : Int) := (by have h_ : (x12_2 : Int) < ((x9_2.length : Int) : Int) := of_decide_eq_true (by first | (with_reducible assumption) | assumption); first | (have e_ := (Kd.R_reads' HO_9.out).1; omega) | simpa only [Ny115.out, List.length_set] using h_); have ql117 : ((x12_2 : Int) < ((x9_2.length : Int) : Int)) = True := eq_true (of_decide_eq_true (by first | (with_reducible assumption) | assumption)); obtain ⟨ad117, e117, hx117_0⟩ := Kd.at_int (Kd.R_reads' HO_9.out).2.2 x12_2 p117 q117; obtain rfl : (⟨go18, 0, none⟩ : Addr) = ad117 := (by injection e117); (first | simp only [add_plain] at hx117_0 | simp only [add_at] at hx117_0 | simp only [Addr.add, Nat.zero_add] at hx117_0 | skip); replace p117 := eq_true p117; replace q117 := eq_true q117))
            repeat (go_quiet (first | (go_at_call 24; (with_reducible refine (accountingref02_MulDiv.calls k2 x8_4 (rd l1 x12_2) t101 1 t110 t111 _ A15.out).mono ?_); rintro e w' ⟨rfl, ⟨nd, rfl⟩⟩; (try first | exact ⟨rfl, _, World.drewN_drewN _ _ _⟩ | exact ⟨rfl, _, Eq.trans (World.drewN_drewN _ _ _) (congrArg (World.drewN _) (Nat.add_assoc _ _ _))⟩); have p112 : 0 ≤ (x12_2 : Int) := of_decide_eq_true (by first | (with_reducible assumption) | assumption); have q112 : x12_2 < (l1.length : Int) := of_decide_eq_true (by first | (with_reducible assumption) | assumption); obtain ⟨ad112, e112, hx112_0⟩ := Kd.at_int HR1.out x12_2 p112 q112; obtain rfl : ad109 = ad112 := (by injection e112); replace hx112_0 := (HB.out.cell (World.block_lt_of_cell? w _ hx112_0)).trans hx112_0; replace p112 := eq_true p112; replace q112 := eq_true q112) | (go_at_call 25; (with_reducible refine (accountingref02_Mod.calls k2 x8_4 (rd l1 x12_2) t101 t113 t114 _ A16.out).mono ?_); rintro e w' ⟨rfl, ⟨nd, rfl⟩⟩; (try first | exact ⟨rfl, _, World.drewN_drewN _ _ _⟩ | exact ⟨rfl, _, Eq.trans (World.drewN_drewN _ _ _) (congrArg (World.drewN _) (Nat.add_assoc _ _ _))⟩); have p18 : 0 ≤ (x12_2 : Int) := of_decide_eq_true (by first | (with_reducible assumption) | assumption); have q18 : (x12_2 : Int) < ((x9_2.length : Int) : Int) := of_decide_eq_true (by first | (with_reducible assumption) | assumption); obtain ⟨go18, co18, eo18, gb18, gl18, cl18, HG18⟩ := Kd.R_form HO_9.out (by omega); (first | cases eo18 | (injection eo18 with ea_ en_ ec_; (first | subst ea_ | (injection ea_ with ea_; subst ea_)); subst ec_; clear en_)); have GB18 := Aside0.mk gb18; have GG18 := Aside0.mk HG18; clear gb18 gl18 HG18; obtain ⟨hx18_0, hf18_0⟩ := Kd.R_celln 0 HO_9.out (x12_2 : Int) p18 q18; replace p18 := eq_true p18; replace q18 := eq_true q18; obtain ⟨hy21_, hz21_⟩ := Kd.R_celln 0 HO_9.out (x12_2 : Int) (of_decide_eq_true (by first | (with_reducible assumption) | assumption)) (of_decide_eq_true (by first | (with_reducible assumption) | assumption)); have HP21 := Kd.R_putg HO_9.out (x12_2 : Int) t110) | ((with_reducible refine gate_store (t := 3) (p := 70) rfl ?_); (try (rw [drewN_self wr]; generalize hq_ : World.drewN wr _ = wr; have n0_ := Aside0.mk (Kd.R_at hq_ HO_9.out); have n1_ := Aside0.mk (Kd.R_at hq_ HO_10.out); have n2_ := Aside0.mk (below_at hq_ HB.out); clear hq_ HO_9 HO_10 HB; have HO_9 := n0_; have HO_10 := n1_; have HB := n2_; clear n0_ n1_ n2_; (try (obtain ⟨hy21_, hz21_⟩ := Kd.R_celln 0 HO_9.out (x12_2 : Int) (of_decide_eq_true (by first | (with_reducible assumption) | assumption)) (of_decide_eq_true (by first | (with_reducible assumption) | assumption)))); (try (have HP21 := Kd.R_putg HO_9.out (x12_2 : Int) t110)))); refine store_event (t := 3) (p := 70) (v := ?vo_w22) (w1 := (wr.setCell ⟨go18, (x12_2 : Int).toNat, none⟩ (.int .i64 t110))) ?hg ?ho ?hn ?hr ?_; (case ho => rfl); (case hg => rfl); (case hn => rfl); (case hr => first | (go_simp; done) | (go_simp; rfl)); intro w22 hw; have hg : wr.grownBy w22 (some go18) := (by rw [hw]; exact HP21.2); have hp_ : Kd.R (Kd.int .i64) 3 w22 w.heap.size (fun k_ => some k_ ≠ (v107 : Value).ownBlock) (.slice (some ⟨go18, 0, none⟩) x9_2.length co18) y115 := (by rw [hw, Ny115.out]; exact HP21.1); clear HP21; have n0_ := Aside0.mk (hp_); have n1_ := Aside0.mk (Kd.R_after (v := (.slice (some ⟨go18, 0, none⟩) x9_2.length co18)) (v1 := (.slice (some ⟨go18, 0, none⟩) x9_2.length co18)) (ok := (fun _ => True)) (by (with_reducible repeat (first | apply Kd.R_alloc | apply Kd.R_drewN | apply Kd.R_drew)); exact Kd.R_mono HO_10.out (fun _ hk => ⟨trivial, hk⟩)) hg (.inl rfl)); have n2_ := Aside0.mk ((by rw [hw]; exact below_set (HB.out) GB18.out : Below w.heap.size w w22)); clear HO_9; clear HO_10; clear HB; have HO_9 := n0_; have HO_10 := n1_; have HB := n2_; clear n0_ n1_ n2_; clear hg hw hp_; have p20 : 0 ≤ (x12_2 : Int) := of_decide_eq_true (by first | (with_reducible assumption) | assumption); have q20 : (x12_2 : Int) < ((x10_2.length : Int) : Int) := of_decide_eq_true (by first | (with_reducible assumption) | assumption); obtain ⟨go20, co20, eo20, gb20, gl20, cl20, HG20⟩ := Kd.R_form HO_10.out (by omega); (first | cases eo20 | (injection eo20 with ea_ en_ ec_; (first | subst ea_ | (injection ea_ with ea_; subst ea_)); subst ec_; clear en_)); have GB20 := Aside0.mk gb20; have GG20 := Aside0.mk HG20; clear gb20 gl20 HG20; obtain ⟨hx20_0, hf20_0⟩ := Kd.R_celln 0 HO_10.out (x12_2 : Int) p20 q20; replace p20 := eq_true p20; replace q20 := eq_true q20; have n_ := Aside0.mk (Kd.R_mono (ok' := (fun k_ => some k_ ≠ (.slice (some ⟨go18, 0, none⟩) x9_2.length co18 : Value).ownBlock)) HO_10.out (fun k_ hk => hk.2)); clear HO_10; have HO_10 := n_; clear n_; obtain ⟨hy23_, hz23_⟩ := Kd.R_celln 0 HO_10.out (x12_2 : Int) (of_decide_eq_true (by first | (with_reducible assumption) | assumption)) (of_decide_eq_true (by first | (with_reducible assumption) | assumption)); have HP23 := Kd.R_putg HO_10.out (x12_2 : Int) t113) | ((with_reducible refine gate_store (t := 3) (p := 74) rfl ?_); (try (rw [drewN_self w22]; generalize hq_ : World.drewN w22 _ = w22; have n0_ := Aside0.mk (Kd.R_at hq_ HO_9.out); have n1_ := Aside0.mk (Kd.R_at hq_ HO_10.out); have n2_ := Aside0.mk (below_at hq_ HB.out); clear hq_ HO_9 HO_10 HB; have HO_9 := n0_; have HO_10 := n1_; have HB := n2_; clear n0_ n1_ n2_; (try (have n_ := Aside0.mk (Kd.R_mono (ok' := (fun k_ => some k_ ≠ (.slice (some ⟨go18, 0, none⟩) x9_2.length co18 : Value).ownBlock)) HO_10.out (fun k_ hk => hk.2)); clear HO_10; have HO_10 := n_; clear n_)); (try (obtain ⟨hy23_, hz23_⟩ := Kd.R_celln 0 HO_10.out (x12_2 : Int) (of_decide_eq_true (by first | (with_reducible assumption) | assumption)) (of_decide_eq_true (by first | (with_reducible assumption) | assumption)))); (try (have HP23 := Kd.R_putg HO_10.out (x12_2 : Int) t113)))); refine store_event (t := 3) (p := 74) (v := ?vo_w24) (w1 := (w22.setCell ⟨go20, (x12_2 : Int).toNat, none⟩ (.int .i64 t113))) ?hg ?ho ?hn ?hr ?_; (case ho => rfl); (case hg => rfl); (case hn => rfl); (case hr => first | (go_simp; done) | (go_simp; rfl)); intro w24 hw; have hg : w22.grownBy w24 (some go20) := (by rw [hw]; exact HP23.2); have hp_ : Kd.R (Kd.int .i64) 3 w24 w.heap.size (fun k_ => some k_ ≠ (.slice (some ⟨go18, 0, none⟩) x9_2.length co18 : Value).ownBlock) (.slice (some ⟨go20, 0, none⟩) x10_2.length co20) y116 := (by rw [hw, Ny116.out]; exact HP23.1); clear HP23; have n0_ := Aside0.mk (Kd.R_after (v := (.slice (some ⟨go20, 0, none⟩) x10_2.length co20)) (v1 := (.slice (some ⟨go20, 0, none⟩) x10_2.length co20)) (ok := (fun _ => True)) (by (with_reducible repeat (first | apply Kd.R_alloc | apply Kd.R_drewN | apply Kd.R_drew)); exact Kd.R_mono HO_9.out (fun _ hk => ⟨trivial, hk⟩)) hg (.inl rfl)); have n1_ := Aside0.mk (hp_); have n2_ := Aside0.mk ((by rw [hw]; exact below_set (HB.out) GB20.out : Below w.heap.size w w24)); clear HO_9; clear HO_10; clear HB; have HO_9 := n0_; have HO_10 := n1_; have HB := n2_; clear n0_ n1_ n2_; clear hg hw hp_; have p117 : 0 ≤ (x12_2 : Int) := of_decide_eq_true (by first | (with_reducible assumption) | assumption); have q117 : x12_2 < (y115.length : Int) := (by have h_ : (x12_2 : Int) < ((x9_2.length : Int) : Int) := of_decide_eq_true (by first | (with_reducible assumption) | assumption); first | (have e_ := (Kd.R_reads' HO_9.out).1; omega) | simpa only [Ny115.out, List.length_set] using h_); have ql117 : ((x12_2 : Int) < ((x9_2.length : Int) : Int)) = True := eq_true (of_decide_eq_true (by first | (with_reducible assumption) | assumption)); obtain ⟨ad117, e117, hx117_0⟩ := Kd.at_int (Kd.R_reads' HO_9.out).2.2 x12_2 p117 q117; obtain rfl : (⟨go18, 0, none⟩ : Addr) = ad117 := (by injection e117); (first | simp only [add_plain] at hx117_0 | simp only [add_at] at hx117_0 | simp only [Addr.add, Nat.zero_add] at hx117_0 | skip); replace p117 := eq_true p117; replace q117 := eq_true q117)); try go_wp2_with (first | (go_at_call 24; (with_reducible refine (accountingref02_MulDiv.calls k2 x8_4 (rd l1 x12_2) t101 1 t110 t111 _ A15.out).mono ?_); rintro e w' ⟨rfl, ⟨nd, rfl⟩⟩; (try first | exact ⟨rfl, _, World.drewN_drewN _ _ _⟩ | exact ⟨rfl, _, Eq.trans (World.drewN_drewN _ _ _) (congrArg (World.drewN _) (Nat.add_assoc _ _ _))⟩); have p112 : 0 ≤ (x12_2 : Int) := of_decide_eq_true (by first | (with_reducible assumption) | assumption); have q112 : x12_2 < (l1.length : Int) := of_decide_eq_true (by first | (with_reducible assumption) | assumption); obtain ⟨ad112, e112, hx112_0⟩ := Kd.at_int HR1.out x12_2 p112 q112; obtain rfl : ad109 = ad112 := (by injection e112); replace hx112_0 := (HB.out.cell (World.block_lt_of_cell? w _ hx112_0)).trans hx112_0; replace p112 := eq_true p112; replace q112 := eq_true q112) | (go_at_call 25; (with_reducible refine (accountingref02_Mod.calls k2 x8_4 (rd l1 x12_2) t101 t113 t114 _ A16.out).mono ?_); rintro e w' ⟨rfl, ⟨nd, rfl⟩⟩; (try first | exact ⟨rfl, _, World.drewN_drewN _ _ _⟩ | exact ⟨rfl, _, Eq.trans (World.drewN_drewN _ _ _) (congrArg (World.drewN _) (Nat.add_assoc _ _ _))⟩); have p18 : 0 ≤ (x12_2 : Int) := of_decide_eq_true (by first | (with_reducible assumption) | assumption); have q18 : (x12_2 : Int) < ((x9_2.length : Int) : Int) := of_decide_eq_true (by first | (with_reducible assumption) | assumption); obtain ⟨go18, co18, eo18, gb18, gl18, cl18, HG18⟩ := Kd.R_form HO_9.out (by omega); (first | cases eo18 | (injection eo18 with ea_ en_ ec_; (first | subst ea_ | (injection ea_ with ea_; subst ea_)); subst ec_; clear en_)); have GB18 := Aside0.mk gb18; have GG18 := Aside0.mk HG18; clear gb18 gl18 HG18; obtain ⟨hx18_0, hf18_0⟩ := Kd.R_celln 0 HO_9.out (x12_2 : Int) p18 q18; replace p18 := eq_true p18; replace q18 := eq_true q18; obtain ⟨hy21_, hz21_⟩ := Kd.R_celln 0 HO_9.out (x12_2 : Int) (of_decide_eq_true (by first | (with_reducible assumption) | assumption)) (of_decide_eq_true (by first | (with_reducible assumption) | assumption)); have HP21 := Kd.R_putg HO_9.out (x12_2 : Int) t110) | ((with_reducible refine gate_store (t := 3) (p := 70) rfl ?_); (try (rw [drewN_self wr]; generalize hq_ : World.drewN wr _ = wr; have n0_ := Aside0.mk (Kd.R_at hq_ HO_9.out); have n1_ := Aside0.mk (Kd.R_at hq_ HO_10.out); have n2_ := Aside0.mk (below_at hq_ HB.out); clear hq_ HO_9 HO_10 HB; have HO_9 := n0_; have HO_10 := n1_; have HB := n2_; clear n0_ n1_ n2_; (try (obtain ⟨hy21_, hz21_⟩ := Kd.R_celln 0 HO_9.out (x12_2 : Int) (of_decide_eq_true (by first | (with_reducible assumption) | assumption)) (of_decide_eq_true (by first | (with_reducible assumption) | assumption)))); (try (have HP21 := Kd.R_putg HO_9.out (x12_2 : Int) t110)))); refine store_event (t := 3) (p := 70) (v := ?vo_w22) (w1 := (wr.setCell ⟨go18, (x12_2 : Int).toNat, none⟩ (.int .i64 t110))) ?hg ?ho ?hn ?hr ?_; (case ho => rfl); (case hg => rfl); (case hn => rfl); (case hr => first | (go_simp; done) | (go_simp; rfl)); intro w22 hw; have hg : wr.grownBy w22 (some go18) := (by rw [hw]; exact HP21.2); have hp_ : Kd.R (Kd.int .i64) 3 w22 w.heap.size (fun k_ => some k_ ≠ (v107 : Value).ownBlock) (.slice (some ⟨go18, 0, none⟩) x9_2.length co18) y115 := (by rw [hw, Ny115.out]; exact HP21.1); clear HP21; have n0_ := Aside0.mk (hp_); have n1_ := Aside0.mk (Kd.R_after (v := (.slice (some ⟨go18, 0, none⟩) x9_2.length co18)) (v1 := (.slice (some ⟨go18, 0, none⟩) x9_2.length co18)) (ok := (fun _ => True)) (by (with_reducible repeat (first | apply Kd.R_alloc | apply Kd.R_drewN | apply Kd.R_drew)); exact Kd.R_mono HO_10.out (fun _ hk => ⟨trivial, hk⟩)) hg (.inl rfl)); have n2_ := Aside0.mk ((by rw [hw]; exact below_set (HB.out) GB18.out : Below w.heap.size w w22)); clear HO_9; clear HO_10; clear HB; have HO_9 := n0_; have HO_10 := n1_; have HB := n2_; clear n0_ n1_ n2_; clear hg hw hp_; have p20 : 0 ≤ (x12_2 : Int) := of_decide_eq_true (by first | (with_reducible assumption) | assumption); have q20 : (x12_2 : Int) < ((x10_2.length : Int) : Int) := of_decide_eq_true (by first | (with_reducible assumption) | assumption); obtain ⟨go20, co20, eo20, gb20, gl20, cl20, HG20⟩ := Kd.R_form HO_10.out (by omega); (first | cases eo20 | (injection eo20 with ea_ en_ ec_; (first | subst ea_ | (injection ea_ with ea_; subst ea_)); subst ec_; clear en_)); have GB20 := Aside0.mk gb20; have GG20 := Aside0.mk HG20; clear gb20 gl20 HG20; obtain ⟨hx20_0, hf20_0⟩ := Kd.R_celln 0 HO_10.out (x12_2 : Int) p20 q20; replace p20 := eq_true p20; replace q20 := eq_true q20; have n_ := Aside0.mk (Kd.R_mono (ok' := (fun k_ => some k_ ≠ (.slice (some ⟨go18, 0, none⟩) x9_2.length co18 : Value).ownBlock)) HO_10.out (fun k_ hk => hk.2)); clear HO_10; have HO_10 := n_; clear n_; obtain ⟨hy23_, hz23_⟩ := Kd.R_celln 0 HO_10.out (x12_2 : Int) (of_decide_eq_true (by first | (with_reducible assumption) | assumption)) (of_decide_eq_true (by first | (with_reducible assumption) | assumption)); have HP23 := Kd.R_putg HO_10.out (x12_2 : Int) t113) | ((with_reducible refine gate_store (t := 3) (p := 74) rfl ?_); (try (rw [drewN_self w22]; generalize hq_ : World.drewN w22 _ = w22; have n0_ := Aside0.mk (Kd.R_at hq_ HO_9.out); have n1_ := Aside0.mk (Kd.R_at hq_ HO_10.out); have n2_ := Aside0.mk (below_at hq_ HB.out); clear hq_ HO_9 HO_10 HB; have HO_9 := n0_; have HO_10 := n1_; have HB := n2_; clear n0_ n1_ n2_; (try (have n_ := Aside0.mk (Kd.R_mono (ok' := (fun k_ => some k_ ≠ (.slice (some ⟨go18, 0, none⟩) x9_2.length co18 : Value).ownBlock)) HO_10.out (fun k_ hk => hk.2)); clear HO_10; have HO_10 := n_; clear n_)); (try (obtain ⟨hy23_, hz23_⟩ := Kd.R_celln 0 HO_10.out (x12_2 : Int) (of_decide_eq_true (by first | (with_reducible assumption) | assumption)) (of_decide_eq_true (by first | (with_reducible assumption) | assumption)))); (try (have HP23 := Kd.R_putg HO_10.out (x12_2 : Int) t113)))); refine store_event (t := 3) (p := 74) (v := ?vo_w24) (w1 := (w22.setCell ⟨go20, (x12_2 : Int).toNat, none⟩ (.int .i64 t113))) ?hg ?ho ?hn ?hr ?_; (case ho => rfl); (case hg => rfl); (case hn => rfl); (case hr => first | (go_simp; done) | (go_simp; rfl)); intro w24 hw; have hg : w22.grownBy w24 (some go20) := (by rw [hw]; exact HP23.2); have hp_ : Kd.R (Kd.int .i64) 3 w24 w.heap.size (fun k_ => some k_ ≠ (.slice (some ⟨go18, 0, none⟩) x9_2.length co18 : Value).ownBlock) (.slice (some ⟨go20, 0, none⟩) x10_2.length co20) y116 := (by rw [hw, Ny116.out]; exact HP23.1); clear HP23; have n0_ := Aside0.mk (Kd.R_after (v := (.slice (some ⟨go20, 0, none⟩) x10_2.length co20)) (v1 := (.slice (some ⟨go20, 0, none⟩) x10_2.length co20)) (ok := (fun _ => True)) (by (with_reducible repeat (first | apply Kd.R_alloc | apply Kd.R_drewN | apply Kd.R_drew)); exact Kd.R_mono HO_9.out (fun _ hk => ⟨trivial, hk⟩)) hg (.inl rfl)); have n1_ := Aside0.mk (hp_); have n2_ := Aside0.mk ((by rw [hw]; exact below_set (HB.out) GB20.out : Below w.heap.size w w24)); clear HO_9; clear HO_10; clear HB; have HO_9 := n0_; have HO_10 := n1_; have HB := n2_; clear n0_ n1_ n2_; clear hg hw hp_; have p117 : 0 ≤ (x12_2 : Int) := of_decide_eq_true (by first | (with_reducible assumption) | assumption); have q117 : x12_2 < (y115.length : Int) := (by have h_ : (x12_2 : Int) < ((x9_2.length : Int) : Int) := of_decide_eq_true (by first | (with_reducible assumption) | assumption); first | (have e_ := (Kd.R_reads' HO_9.out).1; omega) | simpa only [Ny115.out, List.length_set] using h_); have ql117 : ((x12_2 : Int) < ((x9_2.length : Int) : Int)) = True := eq_true (of_decide_eq_true (by first | (with_reducible assumption) | assumption)); obtain ⟨ad117, e117, hx117_0⟩ := Kd.at_int (Kd.R_reads' HO_9.out).2.2 x12_2 p117 q117; obtain rfl : (⟨go18, 0, none⟩ : Addr) = ad117 := (by injection e117); (first | simp only [add_plain] at hx117_0 | simp only [add_at] at hx117_0 | simp only [Addr.add, Nat.zero_add] at hx117_0 | skip); replace p117 := eq_true p117; replace q117 := eq_true q117)))
            go_roundg k2
            case measure => have := HJ4.out; have := HK2.out; omega
            case rel => exact ⟨(y115), (y116), (wrap64 (x11_2 - (rd y115 x12_2))), (wrap64 (x12_2 + 1)), (by first | rfl | (simp; done) | (simp [*]; done)), (by first | rfl | (simp; done) | (simp [*]; done)), H', ⟨by have := HJ4.out; have := HK2.out; omega⟩, ⟨by (with_reducible repeat (first | apply Kd.R_alloc | apply Kd.R_drewN | apply Kd.R_drew)); exact Kd.R_mono HO_9.out (fun _ hk => hk.2)⟩, ⟨by (with_reducible repeat (first | apply Kd.R_alloc | apply Kd.R_drewN | apply Kd.R_drew)); exact HO_10.out⟩, ⟨by repeat (first | (with_reducible first | exact HB.out | apply below_alloc | apply pw_below_drewN | apply below_drew1) | exact HB.out)⟩⟩
           ·rw [if_neg c19] at H
            exact absurd H (by simp)
          ·rw [if_neg c17] at H
           exact absurd H (by simp)
         ·rw [if_neg c14] at H
          exact absurd H (by simp)
        ·rw [if_neg c13] at H
         have c13b0 : decide (x12_2 < (l1.length : Int)) = false := decide_eq_false c13
         clear c13
         have H' := Aside0.mk H
         clear H
         go_wp2
         repeat (go_quiet (fail); try go_wp2)
         go_loopg [11] k2 (fun kq v11 w' => ∃ (x9_3 : List Int) (x10_3 : List Int) (x11_3 : Int), v11 = .int .i64 x11_3 ∧ Aside0 (accountingref08_Shares.l1 kq a0 x9_3 x10_3 x11_3 = some (r1, r2)) ∧ Aside0 (kq ≤ k2) ∧ Aside0 (Kd.R (Kd.int .i64) 3 w' w.heap.size (fun k_ => some k_ ≠ (v107 : Value).ownBlock) v104 x9_3) ∧ Aside0 (Kd.R (Kd.int .i64) 3 w' w.heap.size (fun k_ => some k_ ≠ (v104 : Value).ownBlock) v107 x10_3) ∧ Aside0 (Below w.heap.size w w'))
         case atStart => exact ⟨(x9_2), (x10_2), (x11_2), (by first | rfl | (simp; done) | (simp [*]; done)), H', ⟨Nat.le_refl _⟩, ⟨by (with_reducible repeat (first | apply Kd.R_alloc | apply Kd.R_drewN | apply Kd.R_drew)); exact HO_9.out⟩, ⟨by (with_reducible repeat (first | apply Kd.R_alloc | apply Kd.R_drewN | apply Kd.R_drew)); exact HO_10.out⟩, ⟨by repeat (first | (with_reducible first | exact HB.out | apply below_alloc | apply pw_below_drewN | apply below_drew1) | exact HB.out)⟩⟩
         case round =>
          clear H'
          try clear c1
          try clear p1
          try clear q1
          try clear hx1
          try clear p2
          try clear q2
          try clear hx2
          try clear hf2
          try clear c4
          try clear c4b0
          try clear c4b1
          try clear c6
          try clear c6b0
          try clear p6
          try clear c7
          try clear c7b0
          try clear c7b1
          try clear c8
          try clear c8b0
          try clear c8b1
          try clear p10
          try clear q10
          try clear hx10
          try clear p11
          try clear q11
          try clear hx11
          try clear c13
          try clear c13b0
          try clear c14
          try clear c14b0
          try clear c17
          try clear c17b0
          try clear p18
          try clear q18
          try clear hx18
          try clear hf18
          try clear c19
          try clear c19b0
          try clear p20
          try clear q20
          try clear hx20
          try clear hf20
          try clear hx109_0
          try clear hx112_0
          try clear hx117_0
          try clear hx18_0
          try clear hx20_0
          try clear p109
          try clear p112
          try clear p117
          try clear p18
          try clear p2
          try clear p20
          try clear p6
          try clear q109
          try clear q112
          try clear q117
          try clear q18
          try clear q20
          obtain ⟨x9_3, x10_3, x11_3, rfl, HA, HK3, HO_9, HO_10, HB⟩ := hrel
          cases gk with
          | zero => exact absurd HA.out (by simp [accountingref08_Shares.l1])
          | succ k3 =>
           have H := HA.out
           clear HA
           simp only [accountingref08_Shares.l1] at H
           by_cases c25 : x11_3 > 0
           ·rw [if_pos c25] at H
            have c25b0 : decide (0 < x11_3) = true := decide_eq_true c25
            clear c25
            have H' := Aside0.mk H
            clear H
            go_wp2
            repeat (go_quiet (fail); try go_wp2)
            go_loopg [17, 18] k3 (fun kq v17 v18 w' => ∃ (x17_4 : Int) (x18_4 : Int), v17 = .int .i64 x17_4 ∧ v18 = .int .i64 x18_4 ∧ Aside0 (accountingref08_Shares.l2 kq a0 x9_3 x10_3 x11_3 x17_4 x18_4 = some (r1, r2)) ∧ Aside0 (kq ≤ k3) ∧ Aside0 (Kd.R (Kd.int .i64) 3 w' w.heap.size (fun k_ => some k_ ≠ (v107 : Value).ownBlock) v104 x9_3) ∧ Aside0 (Kd.R (Kd.int .i64) 3 w' w.heap.size (fun k_ => some k_ ≠ (v104 : Value).ownBlock) v107 x10_3) ∧ Aside0 (Below w.heap.size w w'))
            case atStart => exact ⟨(0), (0), (by first | rfl | (simp; done) | (simp [*]; done)), (by first | rfl | (simp; done) | (simp [*]; done)), H', ⟨Nat.le_refl _⟩, ⟨by (with_reducible repeat (first | apply Kd.R_alloc | apply Kd.R_drewN | apply Kd.R_drew)); exact HO_9.out⟩, ⟨by (with_reducible repeat (first | apply Kd.R_alloc | apply Kd.R_drewN | apply Kd.R_drew)); exact HO_10.out⟩, ⟨by repeat (first | (with_reducible first | exact HB.out | apply below_alloc | apply pw_below_drewN | apply below_drew1) | exact HB.out)⟩⟩
            case round =>
             clear H'
             try clear c1
             try clear p1
             try clear q1
             try clear hx1
             try clear c2
             try clear p2
             try clear q2
             try clear hx2
             try clear hf2
             try clear c4
             try clear c4b0
             try clear c4b1
             try clear c6
             try clear c6b0
             try clear p6
             try clear c7
             try clear c7b0
             try clear c7b1
             try clear c8
             try clear c8b0
             try clear c8b1
             try clear p10
             try clear q10
             try clear hx10
             try clear p11
             try clear q11
             try clear hx11
             try clear c13
             try clear c13b0
             try clear c14
             try clear c14b0
             try clear c17
             try clear c17b0
             try clear p18
             try clear q18
             try clear hx18
             try clear hf18
             try clear c19
             try clear c19b0
             try clear p20
             try clear q20
             try clear hx20
             try clear hf20
             try clear c25
             try clear c25b0
             try clear hx109_0
             try clear hx112_0
             try clear hx117_0
             try clear hx18_0
             try clear hx20_0
             try clear p1
             try clear p10
             try clear p109
             try clear p11
             try clear p112
             try clear p117
             try clear p18
             try clear p2
             try clear p20
             try clear p6
             try clear q1
             try clear q10
             try clear q109
             try clear q11
             try clear q112
             try clear q117
             try clear q18
             try clear q2
             try clear q20
             obtain ⟨x17_4, x18_4, rfl, rfl, HA, HK4, HO_9, HO_10, HB⟩ := hrel
             cases gk with
             | zero => exact absurd HA.out (by simp [accountingref08_Shares.l2])
             | succ k4 =>
              have H := HA.out
              clear HA
              simp only [accountingref08_Shares.l2] at H
              by_cases c26 : x18_4 < (x10_3.length : Int)
              ·rw [if_pos c26] at H
               have c26b0 : decide (x18_4 < (x10_3.length : Int)) = true := decide_eq_true c26
               clear c26
               by_cases c27 : 0 ≤ x18_4
               ·rw [if_pos c27] at H
                have c27b0 : decide (0 ≤ x18_4) = true := decide_eq_true c27
                clear c27
                by_cases c28 : 0 ≤ x17_4
                ·rw [if_pos c28] at H
                 have c28b0 : decide (0 ≤ x17_4) = true := decide_eq_true c28
                 clear c28
                 by_cases c29 : x17_4 < (x10_3.length : Int)
                 ·rw [if_pos c29] at H
                  have c29b0 : decide (x17_4 < (x10_3.length : Int)) = true := decide_eq_true c29
                  clear c29
                  by_cases c30 : (rd x10_3 x18_4) > (rd x10_3 x17_4)
                  ·rw [if_pos c30] at H
                   have c30b0 : decide ((rd x10_3 x17_4) < (rd x10_3 x18_4)) = true := decide_eq_true c30
                   clear c30
                   have H' := Aside0.mk H
                   clear H
                   obtain ⟨Ao31, co31, eo31⟩ := Kd.R_slice HO_10.out
                   subst eo31
                   have p118 : 0 ≤ (x18_4 : Int) := of_decide_eq_true (by first | (with_reducible assumption) | assumption)
                   have q118 : x18_4 < (x10_3.length : Int) := of_decide_eq_true (by first | (with_reducible assumption) | assumption)
                   obtain ⟨ad118, e118, hx118_0⟩ := Kd.at_int (Kd.R_reads' HO_10.out).2.2 x18_4 p118 q118
                   cases e118
                   replace p118 := eq_true p118
                   replace q118 := eq_true q118
                   have p119 : 0 ≤ (x17_4 : Int) := of_decide_eq_true (by first | (with_reducible assumption) | assumption)
                   have q119 : x17_4 < (x10_3.length : Int) := of_decide_eq_true (by first | (with_reducible assumption) | assumption)
                   obtain ⟨ad119, e119, hx119_0⟩ := Kd.at_int (Kd.R_reads' HO_10.out).2.2 x17_4 p119 q119
                   obtain rfl : ad118 = ad119 := (by injection e119)
                   replace p119 := eq_true p119
                   replace q119 := eq_true q119
                   go_wp2
                   repeat (go_quiet (fail); try go_wp2)
                   go_roundg k4
                   case measure => have := HJ4.out; have := HK2.out; have := HK3.out; have := HK4.out; omega
                   case rel => exact ⟨(x18_4), (wrap64 (x18_4 + 1)), (by first | rfl | (simp; done) | (simp [*]; done)), (by first | rfl | (simp; done) | (simp [*]; done)), H', ⟨by have := HJ4.out; have := HK2.out; have := HK3.out; have := HK4.out; omega⟩, ⟨by (with_reducible repeat (first | apply Kd.R_alloc | apply Kd.R_drewN | apply Kd.R_drew)); exact HO_9.out⟩, ⟨by (with_reducible repeat (first | apply Kd.R_alloc | apply Kd.R_drewN | apply Kd.R_drew)); exact HO_10.out⟩, ⟨by repeat (first | (with_reducible first | exact HB.out | apply below_alloc | apply pw_below_drewN | apply below_drew1) | exact HB.out)⟩⟩
                  ·rw [if_neg c30] at H
                   have c30b0 : decide ((rd x10_3 x17_4) < (rd x10_3 x18_4)) = false := decide_eq_false c30
                   clear c30
                   have H' := Aside0.mk H
                   clear H
                   obtain ⟨Ao32, co32, eo32⟩ := Kd.R_slice HO_10.out
                   subst eo32
                   have p118 : 0 ≤ (x18_4 : Int) := of_decide_eq_true (by first | (with_reducible assumption) | assumption)
                   have q118 : x18_4 < (x10_3.length : Int) := of_decide_eq_true (by first | (with_reducible assumption) | assumption)
                   obtain ⟨ad118, e118, hx118_0⟩ := Kd.at_int (Kd.R_reads' HO_10.out).2.2 x18_4 p118 q118
                   cases e118
                   replace p118 := eq_true p118
                   replace q118 := eq_true q118
                   have p119 : 0 ≤ (x17_4 : Int) := of_decide_eq_true (by first | (with_reducible assumption) | assumption)
                   have q119 : x17_4 < (x10_3.length : Int) := of_decide_eq_true (by first | (with_reducible assumption) | assumption)
                   obtain ⟨ad119, e119, hx119_0⟩ := Kd.at_int (Kd.R_reads' HO_10.out).2.2 x17_4 p119 q119
                   obtain rfl : ad118 = ad119 := (by injection e119)
                   replace p119 := eq_true p119
                   replace q119 := eq_true q119
                   go_wp2
                   repeat (go_quiet (fail); try go_wp2)
                   go_roundg k4
                   case measure => have := HJ4.out; have := HK2.out; have := HK3.out; have := HK4.out; omega
                   case rel => exact ⟨(x17_4), (wrap64 (x18_4 + 1)), (by first | rfl | (simp; done) | (simp [*]; done)), (by first | rfl | (simp; done) | (simp [*]; done)), H', ⟨by have := HJ4.out; have := HK2.out; have := HK3.out; have := HK4.out; omega⟩, ⟨by (with_reducible repeat (first | apply Kd.R_alloc | apply Kd.R_drewN | apply Kd.R_drew)); exact HO_9.out⟩, ⟨by (with_reducible repeat (first | apply Kd.R_alloc | apply Kd.R_drewN | apply Kd.R_drew)); exact HO_10.out⟩, ⟨by repeat (first | (with_reducible first | exact HB.out | apply below_alloc | apply pw_below_drewN | apply below_drew1) | exact HB.out)⟩⟩
                 ·rw [if_neg c29] at H
                  exact absurd H (by simp)
                ·rw [if_neg c28] at H
                 exact absurd H (by simp)
               ·rw [if_neg c27] at H
                exact absurd H (by simp)
              ·rw [if_neg c26] at H
               have c26b0 : decide (x18_4 < (x10_3.length : Int)) = false := decide_eq_false c26
               clear c26
               by_cases c33 : 0 ≤ x17_4
               ·rw [if_pos c33] at H
                have c33b0 : decide (0 ≤ x17_4) = true := decide_eq_true c33
                clear c33
                by_cases c34 : x17_4 < (x9_3.length : Int)
                ·rw [if_pos c34] at H
                 have c34b0 : decide (x17_4 < (x9_3.length : Int)) = true := decide_eq_true c34
                 clear c34
                 obtain ⟨y121, hy121⟩ : ∃ y_ : List Int, y_ = (x9_3.set (x17_4 : Int).toNat (wrap64 ((rd x9_3 x17_4) + 1))) := ⟨_, rfl⟩
                 replace H : (if x17_4 < (x10_3.length : Int) then (accountingref08_Shares.l1 k4 a0 y121 (x10_3.set (x17_4 : Int).toNat (-1)) (wrap64 (x11_3 - 1))) else (none)) = some (r1, r2) := by first | (rw [hy121]; with_reducible exact H) | (have H2_ := (Option.bind_some _ _).symm.trans H; rw [hy121]; with_reducible exact H2_) | (have H2_ := (Option.bind_some _ _).symm.trans H; with_reducible exact H2_) | with_reducible exact H | (rw [hy121]; exact H) | exact H
                 have Ny121 := Aside0.mk hy121
                 clear hy121
                 by_cases c36 : x17_4 < (x10_3.length : Int)
                 ·rw [if_pos c36] at H
                  have c36b0 : decide (x17_4 < (x10_3.length : Int)) = true := decide_eq_true c36
                  clear c36
                  obtain ⟨y122, hy122⟩ : ∃ y_ : List Int, y_ = (x10_3.set (x17_4 : Int).toNat (-1)) := ⟨_, rfl⟩
                  replace H : (accountingref08_Shares.l1 k4 a0 y121 y122 (wrap64 (x11_3 - 1))) = some (r1, r2) := by first | (rw [hy122]; with_reducible exact H) | (have H2_ := (Option.bind_some _ _).symm.trans H; rw [hy122]; with_reducible exact H2_) | (have H2_ := (Option.bind_some _ _).symm.trans H; with_reducible exact H2_) | with_reducible exact H | (rw [hy122]; exact H) | exact H
                  have Ny122 := Aside0.mk hy122
                  clear hy122
                  have H' := Aside0.mk H
                  clear H
                  obtain ⟨Ao38, co38, eo38⟩ := Kd.R_slice HO_10.out
                  subst eo38
                  obtain ⟨Ao39, co39, eo39⟩ := Kd.R_slice HO_9.out
                  subst eo39
                  have p120 : 0 ≤ (x17_4 : Int) := of_decide_eq_true (by first | (with_reducible assumption) | assumption)
                  have q120 : x17_4 < (x9_3.length : Int) := of_decide_eq_true (by first | (with_reducible assumption) | assumption)
                  obtain ⟨ad120, e120, hx120_0⟩ := Kd.at_int (Kd.R_reads' HO_9.out).2.2 x17_4 p120 q120
                  cases e120
                  replace p120 := eq_true p120
                  replace q120 := eq_true q120
                  have p35 : 0 ≤ (x17_4 : Int) := of_decide_eq_true (by first | (with_reducible assumption) | assumption)
                  have q35 : (x17_4 : Int) < ((x9_3.length : Int) : Int) := of_decide_eq_true (by first | (with_reducible assumption) | assumption)
                  obtain ⟨go35, co35, eo35, gb35, gl35, cl35, HG35⟩ := Kd.R_form HO_9.out (by omega)
                  (first | cases eo35 | (injection eo35 with ea_ en_ ec_; (first | subst ea_ | (injection ea_ with ea_; subst ea_)); subst ec_; clear en_))
                  have GB35 := Aside0.mk gb35
                  have GG35 := Aside0.mk HG35
                  clear gb35 gl35 HG35
                  (first | simp only [add_plain] at hx120_0 | skip)
                  obtain ⟨hx35_0, hf35_0⟩ := Kd.R_celln 0 HO_9.out (x17_4 : Int) p35 q35
                  replace p35 := eq_true p35
                  replace q35 := eq_true q35
                  have HP40 := Kd.R_putg HO_9.out (x17_4 : Int) (wrap64 ((rd x9_3 x17_4) + 1))
                  go_wp2_with (first | ((with_reducible refine gate_store (t := 3) (p := 106) rfl ?_); (try (rw [drewN_self wr]; generalize hq_ : World.drewN wr _ = wr; have n0_ := Aside0.mk (Kd.R_at hq_ HO_9.out); have n1_ := Aside0.mk (Kd.R_at hq_ HO_10.out); have n2_ := Aside0.mk (below_at hq_ HB.out); clear hq_ HO_9 HO_10 HB; have HO_9 := n0_; have HO_10 := n1_; have HB := n2_; clear n0_ n1_ n2_; (try (have HP40 := Kd.R_putg HO_9.out (x17_4 : Int) (wrap64 ((rd x9_3 x17_4) + 1)))))); refine store_event (t := 3) (p := 106) (v := ?vo_w41) (w1 := (wr.setCell ⟨go35, (x17_4 : Int).toNat, none⟩ (.int .i64 (wrap64 ((rd x9_3 x17_4) + 1))))) ?hg ?ho ?hn ?hr ?_; (case ho => rfl); (case hg => rfl); (case hn => rfl); (case hr => first | (go_simp; done) | (go_simp; rfl)); intro w41 hw; have hg : wr.grownBy w41 (some go35) := (by rw [hw]; exact HP40.2); have hp_ : Kd.R (Kd.int .i64) 3 w41 w.heap.size (fun k_ => some k_ ≠ (.slice Ao38 x10_3.length co38 : Value).ownBlock) (.slice (some ⟨go35, 0, none⟩) x9_3.length co39) y121 := (by rw [hw, Ny121.out]; exact HP40.1); clear HP40; have n0_ := Aside0.mk (hp_); have n1_ := Aside0.mk (Kd.R_after (v := (.slice (some ⟨go35, 0, none⟩) x9_3.length co39)) (v1 := (.slice (some ⟨go35, 0, none⟩) x9_3.length co39)) (ok := (fun _ => True)) (by (with_reducible repeat (first | apply Kd.R_alloc | apply Kd.R_drewN | apply Kd.R_drew)); exact Kd.R_mono HO_10.out (fun _ hk => ⟨trivial, hk⟩)) hg (.inl rfl)); have n2_ := Aside0.mk ((by rw [hw]; exact below_set (HB.out) GB35.out : Below w.heap.size w w41)); clear HO_9; clear HO_10; clear HB; have HO_9 := n0_; have HO_10 := n1_; have HB := n2_; clear n0_ n1_ n2_; clear hg hw hp_; have p37 : 0 ≤ (x17_4 : Int) := of_decide_eq_true (by first | (with_reducible assumption) | assumption); have q37 : (x17_4 : Int) < ((x10_3.length : Int) : Int) := of_decide_eq_true (by first | (with_reducible assumption) | assumption); obtain ⟨go37, co37, eo37, gb37, gl37, cl37, HG37⟩ := Kd.R_form HO_10.out (by omega); (first | cases eo37 | (injection eo37 with ea_ en_ ec_; (first | subst ea_ | (injection ea_ with ea_; subst ea_)); subst ec_; clear en_)); have GB37 := Aside0.mk gb37; have GG37 := Aside0.mk HG37; clear gb37 gl37 HG37; obtain ⟨hx37_0, hf37_0⟩ := Kd.R_celln 0 HO_10.out (x17_4 : Int) p37 q37; replace p37 := eq_true p37; replace q37 := eq_true q37; have n_ := Aside0.mk (Kd.R_mono (ok' := (fun k_ => some k_ ≠ (.slice (some ⟨go35, 0, none⟩) x9_3.length co39 : Value).ownBlock)) HO_10.out (fun k_ hk => hk.2)); clear HO_10; have HO_10 := n_; clear n_; obtain ⟨hy42_, hz42_⟩ := Kd.R_celln 0 HO_10.out (x17_4 : Int) (of_decide_eq_true (by first | (with_reducible assumption) | assumption)) (of_decide_eq_true (by first | (with_reducible assumption) | assumption)); have HP42 := Kd.R_putg HO_10.out (x17_4 : Int) (-1)) | ((with_reducible refine gate_store (t := 3) (p := 109) rfl ?_); (try (rw [drewN_self w41]; generalize hq_ : World.drewN w41 _ = w41; have n0_ := Aside0.mk (Kd.R_at hq_ HO_9.out); have n1_ := Aside0.mk (Kd.R_at hq_ HO_10.out); have n2_ := Aside0.mk (below_at hq_ HB.out); clear hq_ HO_9 HO_10 HB; have HO_9 := n0_; have HO_10 := n1_; have HB := n2_; clear n0_ n1_ n2_; (try (have n_ := Aside0.mk (Kd.R_mono (ok' := (fun k_ => some k_ ≠ (.slice (some ⟨go35, 0, none⟩) x9_3.length co39 : Value).ownBlock)) HO_10.out (fun k_ hk => hk.2)); clear HO_10; have HO_10 := n_; clear n_)); (try (obtain ⟨hy42_, hz42_⟩ := Kd.R_celln 0 HO_10.out (x17_4 : Int) (of_decide_eq_true (by first | (with_reducible assumption) | assumption)) (of_decide_eq_true (by first | (with_reducible assumption) | assumption)))); (try (have HP42 := Kd.R_putg HO_10.out (x17_4 : Int) (-1))))); refine store_event (t := 3) (p := 109) (v := ?vo_w43) (w1 := (w41.setCell ⟨go37, (x17_4 : Int).toNat, none⟩ (.int .i64 (-1)))) ?hg ?ho ?hn ?hr ?_; (case ho => rfl); (case hg => rfl); (case hn => rfl); (case hr => first | (go_simp; done) | (go_simp; rfl)); intro w43 hw; have hg : w41.grownBy w43 (some go37) := (by rw [hw]; exact HP42.2); have hp_ : Kd.R (Kd.int .i64) 3 w43 w.heap.size (fun k_ => some k_ ≠ (.slice (some ⟨go35, 0, none⟩) x9_3.length co39 : Value).ownBlock) (.slice (some ⟨go37, 0, none⟩) x10_3.length co38) y122 := (by rw [hw, Ny122.out]; exact HP42.1); clear HP42; have n0_ := Aside0.mk (Kd.R_after (v := (.slice (some ⟨go37, 0, none⟩) x10_3.length co38)) (v1 := (.slice (some ⟨go37, 0, none⟩) x10_3.length co38)) (ok := (fun _ => True)) (by (with_reducible repeat (first | apply Kd.R_alloc | apply Kd.R_drewN | apply Kd.R_drew)); exact Kd.R_mono HO_9.out (fun _ hk => ⟨trivial, hk⟩)) hg (.inl rfl)); have n1_ := Aside0.mk (hp_); have n2_ := Aside0.mk ((by rw [hw]; exact below_set (HB.out) GB37.out : Below w.heap.size w w43)); clear HO_9; clear HO_10; clear HB; have HO_9 := n0_; have HO_10 := n1_; have HB := n2_; clear n0_ n1_ n2_; clear hg hw hp_))
                  repeat (go_quiet (first | ((with_reducible refine gate_store (t := 3) (p := 106) rfl ?_); (try (rw [drewN_self wr]; generalize hq_ : World.drewN wr _ = wr; have n0_ := Aside0.mk (Kd.R_at hq_ HO_9.out); have n1_ := Aside0.mk (Kd.R_at hq_ HO_10.out); have n2_ := Aside0.mk (below_at hq_ HB.out); clear hq_ HO_9 HO_10 HB; have HO_9 := n0_; have HO_10 := n1_; have HB := n2_; clear n0_ n1_ n2_; (try (have HP40 := Kd.R_putg HO_9.out (x17_4 : Int) (wrap64 ((rd x9_3 x17_4) + 1)))))); refine store_event (t := 3) (p := 106) (v := ?vo_w41) (w1 := (wr.setCell ⟨go35, (x17_4 : Int).toNat, none⟩ (.int .i64 (wrap64 ((rd x9_3 x17_4) + 1))))) ?hg ?ho ?hn ?hr ?_; (case ho => rfl); (case hg => rfl); (case hn => rfl); (case hr => first | (go_simp; done) | (go_simp; rfl)); intro w41 hw; have hg : wr.grownBy w41 (some go35) := (by rw [hw]; exact HP40.2); have hp_ : Kd.R (Kd.int .i64) 3 w41 w.heap.size (fun k_ => some k_ ≠ (.slice Ao38 x10_3.length co38 : Value).ownBlock) (.slice (some ⟨go35, 0, none⟩) x9_3.length co39) y121 := (by rw [hw, Ny121.out]; exact HP40.1); clear HP40; have n0_ := Aside0.mk (hp_); have n1_ := Aside0.mk (Kd.R_after (v := (.slice (some ⟨go35, 0, none⟩) x9_3.length co39)) (v1 := (.slice (some ⟨go35, 0, none⟩) x9_3.length co39)) (ok := (fun _ => True)) (by (with_reducible repeat (first | apply Kd.R_alloc | apply Kd.R_drewN | apply Kd.R_drew)); exact Kd.R_mono HO_10.out (fun _ hk => ⟨trivial, hk⟩)) hg (.inl rfl)); have n2_ := Aside0.mk ((by rw [hw]; exact below_set (HB.out) GB35.out : Below w.heap.size w w41)); clear HO_9; clear HO_10; clear HB; have HO_9 := n0_; have HO_10 := n1_; have HB := n2_; clear n0_ n1_ n2_; clear hg hw hp_; have p37 : 0 ≤ (x17_4 : Int) := of_decide_eq_true (by first | (with_reducible assumption) | assumption); have q37 : (x17_4 : Int) < ((x10_3.length : Int) : Int) := of_decide_eq_true (by first | (with_reducible assumption) | assumption); obtain ⟨go37, co37, eo37, gb37, gl37, cl37, HG37⟩ := Kd.R_form HO_10.out (by omega); (first | cases eo37 | (injection eo37 with ea_ en_ ec_; (first | subst ea_ | (injection ea_ with ea_; subst ea_)); subst ec_; clear en_)); have GB37 := Aside0.mk gb37; have GG37 := Aside0.mk HG37; clear gb37 gl37 HG37; obtain ⟨hx37_0, hf37_0⟩ := Kd.R_celln 0 HO_10.out (x17_4 : Int) p37 q37; replace p37 := eq_true p37; replace q37 := eq_true q37; have n_ := Aside0.mk (Kd.R_mono (ok' := (fun k_ => some k_ ≠ (.slice (some ⟨go35, 0, none⟩) x9_3.length co39 : Value).ownBlock)) HO_10.out (fun k_ hk => hk.2)); clear HO_10; have HO_10 := n_; clear n_; obtain ⟨hy42_, hz42_⟩ := Kd.R_celln 0 HO_10.out (x17_4 : Int) (of_decide_eq_true (by first | (with_reducible assumption) | assumption)) (of_decide_eq_true (by first | (with_reducible assumption) | assumption)); have HP42 := Kd.R_putg HO_10.out (x17_4 : Int) (-1)) | ((with_reducible refine gate_store (t := 3) (p := 109) rfl ?_); (try (rw [drewN_self w41]; generalize hq_ : World.drewN w41 _ = w41; have n0_ := Aside0.mk (Kd.R_at hq_ HO_9.out); have n1_ := Aside0.mk (Kd.R_at hq_ HO_10.out); have n2_ := Aside0.mk (below_at hq_ HB.out); clear hq_ HO_9 HO_10 HB; have HO_9 := n0_; have HO_10 := n1_; have HB := n2_; clear n0_ n1_ n2_; (try (have n_ := Aside0.mk (Kd.R_mono (ok' := (fun k_ => some k_ ≠ (.slice (some ⟨go35, 0, none⟩) x9_3.length co39 : Value).ownBlock)) HO_10.out (fun k_ hk => hk.2)); clear HO_10; have HO_10 := n_; clear n_)); (try (obtain ⟨hy42_, hz42_⟩ := Kd.R_celln 0 HO_10.out (x17_4 : Int) (of_decide_eq_true (by first | (with_reducible assumption) | assumption)) (of_decide_eq_true (by first | (with_reducible assumption) | assumption)))); (try (have HP42 := Kd.R_putg HO_10.out (x17_4 : Int) (-1))))); refine store_event (t := 3) (p := 109) (v := ?vo_w43) (w1 := (w41.setCell ⟨go37, (x17_4 : Int).toNat, none⟩ (.int .i64 (-1)))) ?hg ?ho ?hn ?hr ?_; (case ho => rfl); (case hg => rfl); (case hn => rfl); (case hr => first | (go_simp; done) | (go_simp; rfl)); intro w43 hw; have hg : w41.grownBy w43 (some go37) := (by rw [hw]; exact HP42.2); have hp_ : Kd.R (Kd.int .i64) 3 w43 w.heap.size (fun k_ => some k_ ≠ (.slice (some ⟨go35, 0, none⟩) x9_3.length co39 : Value).ownBlock) (.slice (some ⟨go37, 0, none⟩) x10_3.length co38) y122 := (by rw [hw, Ny122.out]; exact HP42.1); clear HP42; have n0_ := Aside0.mk (Kd.R_after (v := (.slice (some ⟨go37, 0, none⟩) x10_3.length co38)) (v1 := (.slice (some ⟨go37, 0, none⟩) x10_3.length co38)) (ok := (fun _ => True)) (by (with_reducible repeat (first | apply Kd.R_alloc | apply Kd.R_drewN | apply Kd.R_drew)); exact Kd.R_mono HO_9.out (fun _ hk => ⟨trivial, hk⟩)) hg (.inl rfl)); have n1_ := Aside0.mk (hp_); have n2_ := Aside0.mk ((by rw [hw]; exact below_set (HB.out) GB37.out : Below w.heap.size w w43)); clear HO_9; clear HO_10; clear HB; have HO_9 := n0_; have HO_10 := n1_; have HB := n2_; clear n0_ n1_ n2_; clear hg hw hp_)); try go_wp2_with (first | ((with_reducible refine gate_store (t := 3) (p := 106) rfl ?_); (try (rw [drewN_self wr]; generalize hq_ : World.drewN wr _ = wr; have n0_ := Aside0.mk (Kd.R_at hq_ HO_9.out); have n1_ := Aside0.mk (Kd.R_at hq_ HO_10.out); have n2_ := Aside0.mk (below_at hq_ HB.out); clear hq_ HO_9 HO_10 HB; have HO_9 := n0_; have HO_10 := n1_; have HB := n2_; clear n0_ n1_ n2_; (try (have HP40 := Kd.R_putg HO_9.out (x17_4 : Int) (wrap64 ((rd x9_3 x17_4) + 1)))))); refine store_event (t := 3) (p := 106) (v := ?vo_w41) (w1 := (wr.setCell ⟨go35, (x17_4 : Int).toNat, none⟩ (.int .i64 (wrap64 ((rd x9_3 x17_4) + 1))))) ?hg ?ho ?hn ?hr ?_; (case ho => rfl); (case hg => rfl); (case hn => rfl); (case hr => first | (go_simp; done) | (go_simp; rfl)); intro w41 hw; have hg : wr.grownBy w41 (some go35) := (by rw [hw]; exact HP40.2); have hp_ : Kd.R (Kd.int .i64) 3 w41 w.heap.size (fun k_ => some k_ ≠ (.slice Ao38 x10_3.length co38 : Value).ownBlock) (.slice (some ⟨go35, 0, none⟩) x9_3.length co39) y121 := (by rw [hw, Ny121.out]; exact HP40.1); clear HP40; have n0_ := Aside0.mk (hp_); have n1_ := Aside0.mk (Kd.R_after (v := (.slice (some ⟨go35, 0, none⟩) x9_3.length co39)) (v1 := (.slice (some ⟨go35, 0, none⟩) x9_3.length co39)) (ok := (fun _ => True)) (by (with_reducible repeat (first | apply Kd.R_alloc | apply Kd.R_drewN | apply Kd.R_drew)); exact Kd.R_mono HO_10.out (fun _ hk => ⟨trivial, hk⟩)) hg (.inl rfl)); have n2_ := Aside0.mk ((by rw [hw]; exact below_set (HB.out) GB35.out : Below w.heap.size w w41)); clear HO_9; clear HO_10; clear HB; have HO_9 := n0_; have HO_10 := n1_; have HB := n2_; clear n0_ n1_ n2_; clear hg hw hp_; have p37 : 0 ≤ (x17_4 : Int) := of_decide_eq_true (by first | (with_reducible assumption) | assumption); have q37 : (x17_4 : Int) < ((x10_3.length : Int) : Int) := of_decide_eq_true (by first | (with_reducible assumption) | assumption); obtain ⟨go37, co37, eo37, gb37, gl37, cl37, HG37⟩ := Kd.R_form HO_10.out (by omega); (first | cases eo37 | (injection eo37 with ea_ en_ ec_; (first | subst ea_ | (injection ea_ with ea_; subst ea_)); subst ec_; clear en_)); have GB37 := Aside0.mk gb37; have GG37 := Aside0.mk HG37; clear gb37 gl37 HG37; obtain ⟨hx37_0, hf37_0⟩ := Kd.R_celln 0 HO_10.out (x17_4 : Int) p37 q37; replace p37 := eq_true p37; replace q37 := eq_true q37; have n_ := Aside0.mk (Kd.R_mono (ok' := (fun k_ => some k_ ≠ (.slice (some ⟨go35, 0, none⟩) x9_3.length co39 : Value).ownBlock)) HO_10.out (fun k_ hk => hk.2)); clear HO_10; have HO_10 := n_; clear n_; obtain ⟨hy42_, hz42_⟩ := Kd.R_celln 0 HO_10.out (x17_4 : Int) (of_decide_eq_true (by first | (with_reducible assumption) | assumption)) (of_decide_eq_true (by first | (with_reducible assumption) | assumption)); have HP42 := Kd.R_putg HO_10.out (x17_4 : Int) (-1)) | ((with_reducible refine gate_store (t := 3) (p := 109) rfl ?_); (try (rw [drewN_self w41]; generalize hq_ : World.drewN w41 _ = w41; have n0_ := Aside0.mk (Kd.R_at hq_ HO_9.out); have n1_ := Aside0.mk (Kd.R_at hq_ HO_10.out); have n2_ := Aside0.mk (below_at hq_ HB.out); clear hq_ HO_9 HO_10 HB; have HO_9 := n0_; have HO_10 := n1_; have HB := n2_; clear n0_ n1_ n2_; (try (have n_ := Aside0.mk (Kd.R_mono (ok' := (fun k_ => some k_ ≠ (.slice (some ⟨go35, 0, none⟩) x9_3.length co39 : Value).ownBlock)) HO_10.out (fun k_ hk => hk.2)); clear HO_10; have HO_10 := n_; clear n_)); (try (obtain ⟨hy42_, hz42_⟩ := Kd.R_celln 0 HO_10.out (x17_4 : Int) (of_decide_eq_true (by first | (with_reducible assumption) | assumption)) (of_decide_eq_true (by first | (with_reducible assumption) | assumption)))); (try (have HP42 := Kd.R_putg HO_10.out (x17_4 : Int) (-1))))); refine store_event (t := 3) (p := 109) (v := ?vo_w43) (w1 := (w41.setCell ⟨go37, (x17_4 : Int).toNat, none⟩ (.int .i64 (-1)))) ?hg ?ho ?hn ?hr ?_; (case ho => rfl); (case hg => rfl); (case hn => rfl); (case hr => first | (go_simp; done) | (go_simp; rfl)); intro w43 hw; have hg : w41.grownBy w43 (some go37) := (by rw [hw]; exact HP42.2); have hp_ : Kd.R (Kd.int .i64) 3 w43 w.heap.size (fun k_ => some k_ ≠ (.slice (some ⟨go35, 0, none⟩) x9_3.length co39 : Value).ownBlock) (.slice (some ⟨go37, 0, none⟩) x10_3.length co38) y122 := (by rw [hw, Ny122.out]; exact HP42.1); clear HP42; have n0_ := Aside0.mk (Kd.R_after (v := (.slice (some ⟨go37, 0, none⟩) x10_3.length co38)) (v1 := (.slice (some ⟨go37, 0, none⟩) x10_3.length co38)) (ok := (fun _ => True)) (by (with_reducible repeat (first | apply Kd.R_alloc | apply Kd.R_drewN | apply Kd.R_drew)); exact Kd.R_mono HO_9.out (fun _ hk => ⟨trivial, hk⟩)) hg (.inl rfl)); have n1_ := Aside0.mk (hp_); have n2_ := Aside0.mk ((by rw [hw]; exact below_set (HB.out) GB37.out : Below w.heap.size w w43)); clear HO_9; clear HO_10; clear HB; have HO_9 := n0_; have HO_10 := n1_; have HB := n2_; clear n0_ n1_ n2_; clear hg hw hp_)))
                  go_roundg k4
                  case measure => have := HJ4.out; have := HK2.out; have := HK3.out; have := HK4.out; omega
                  case rel => exact ⟨(y121), (y122), (wrap64 (x11_3 - 1)), (by first | rfl | (simp; done) | (simp [*]; done)), H', ⟨by have := HJ4.out; have := HK2.out; have := HK3.out; have := HK4.out; omega⟩, ⟨by (with_reducible repeat (first | apply Kd.R_alloc | apply Kd.R_drewN | apply Kd.R_drew)); exact Kd.R_mono HO_9.out (fun _ hk => hk.2)⟩, ⟨by (with_reducible repeat (first | apply Kd.R_alloc | apply Kd.R_drewN | apply Kd.R_drew)); exact HO_10.out⟩, ⟨by repeat (first | (with_reducible first | exact HB.out | apply below_alloc | apply pw_below_drewN | apply below_drew1) | exact HB.out)⟩⟩
                 ·rw [if_neg c36] at H
                  exact absurd H (by simp)
                ·rw [if_neg c34] at H
                 exact absurd H (by simp)
               ·rw [if_neg c33] at H
                exact absurd H (by simp)
           ·rw [if_neg c25] at H
            have c25b0 : decide (0 < x11_3) = false := decide_eq_false c25
            clear c25
            have H' := Aside0.mk H
            clear H
            go_wp2
            repeat (go_quiet (fail); try go_wp2)
            go_loopg [19] k3 (fun kq v19 w' => ∃ (x9_4 : List Int) (x19_4 : Int), v19 = .int .i64 x19_4 ∧ Aside0 (accountingref08_Shares.l3 kq a0 x9_4 x19_4 = some (r1, r2)) ∧ Aside0 (kq ≤ k3) ∧ Aside0 (Kd.R (Kd.int .i64) 3 w' w.heap.size (fun _ => True) v104 x9_4) ∧ Aside0 (Below w.heap.size w w'))
            case atStart => exact ⟨(x9_3), (0), (by first | rfl | (simp; done) | (simp [*]; done)), H', ⟨Nat.le_refl _⟩, ⟨by (with_reducible repeat (first | apply Kd.R_alloc | apply Kd.R_drewN | apply Kd.R_drew)); exact Kd.R_mono HO_9.out (fun _ hk => trivial)⟩, ⟨by repeat (first | (with_reducible first | exact HB.out | apply below_alloc | apply pw_below_drewN | apply below_drew1) | exact HB.out)⟩⟩
            case round =>
             clear H'
             try clear c1
             try clear p1
             try clear q1
             try clear hx1
             try clear c2
             try clear p2
             try clear q2
             try clear hx2
             try clear hf2
             try clear c3
             try clear p3
             try clear q3
             try clear hx3
             try clear hf3
             try clear c4
             try clear c4b0
             try clear c4b1
             try clear c6
             try clear c6b0
             try clear p6
             try clear c7
             try clear c7b0
             try clear c7b1
             try clear c8
             try clear c8b0
             try clear c8b1
             try clear p10
             try clear q10
             try clear hx10
             try clear p11
             try clear q11
             try clear hx11
             try clear p12
             try clear q12
             try clear hx12
             try clear c13
             try clear c13b0
             try clear c14
             try clear c14b0
             try clear c17
             try clear c17b0
             try clear p18
             try clear q18
             try clear hx18
             try clear hf18
             try clear c19
             try clear c19b0
             try clear p20
             try clear q20
             try clear hx20
             try clear hf20
             try clear c25
             try clear c25b0
             try clear c26
             try clear c26b0
             try clear c27
             try clear c27b0
             try clear c28
             try clear c28b0
             try clear c29
             try clear c29b0
             try clear c30
             try clear c30b0
             try clear c33
             try clear c33b0
             try clear c34
             try clear c34b0
             try clear p35
             try clear q35
             try clear hx35
             try clear hf35
             try clear c36
             try clear c36b0
             try clear p37
             try clear q37
             try clear hx37
             try clear hf37
             try clear hx109_0
             try clear hx112_0
             try clear hx117_0
             try clear hx118_0
             try clear hx119_0
             try clear hx120_0
             try clear hx18_0
             try clear hx20_0
             try clear hx35_0
             try clear hx37_0
             try clear p1
             try clear p10
             try clear p109
             try clear p11
             try clear p112
             try clear p117
             try clear p118
             try clear p119
             try clear p120
             try clear p18
             try clear p2
             try clear p20
             try clear p35
             try clear p37
             try clear p6
             try clear q1
             try clear q10
             try clear q109
             try clear q11
             try clear q112
             try clear q117
             try clear q118
             try clear q119
             try clear q120
             try clear q18
             try clear q2
             try clear q20
             try clear q35
             try clear q37
             obtain ⟨x9_4, x19_4, rfl, HA, HK4, HO_9, HB⟩ := hrel
             cases gk with
             | zero => exact absurd HA.out (by simp [accountingref08_Shares.l3])
             | succ k4 =>
              have H := HA.out
              clear HA
              simp only [accountingref08_Shares.l3] at H
              by_cases c44 : x19_4 < (x9_4.length : Int)
              ·rw [if_pos c44] at H
               have c44b0 : decide (x19_4 < (x9_4.length : Int)) = true := decide_eq_true c44
               clear c44
               by_cases c45 : a0 < 0
               ·rw [if_pos c45] at H
                have c45b0 : decide (a0 < 0) = true := decide_eq_true c45
                clear c45
                by_cases c46 : 0 ≤ x19_4
                ·rw [if_pos c46] at H
                 have c46b0 : decide (0 ≤ x19_4) = true := decide_eq_true c46
                 clear c46
                 obtain ⟨y124, hy124⟩ : ∃ y_ : List Int, y_ = (x9_4.set (x19_4 : Int).toNat (wrap64 (-(rd x9_4 x19_4)))) := ⟨_, rfl⟩
                 replace H : (accountingref08_Shares.l3 k4 a0 y124 (wrap64 (x19_4 + 1))) = some (r1, r2) := by first | (rw [hy124]; with_reducible exact H) | (have H2_ := (Option.bind_some _ _).symm.trans H; rw [hy124]; with_reducible exact H2_) | (have H2_ := (Option.bind_some _ _).symm.trans H; with_reducible exact H2_) | with_reducible exact H | (rw [hy124]; exact H) | exact H
                 have Ny124 := Aside0.mk hy124
                 clear hy124
                 have H' := Aside0.mk H
                 clear H
                 obtain ⟨Ao48, co48, eo48⟩ := Kd.R_slice HO_9.out
                 subst eo48
                 have p123 : 0 ≤ (x19_4 : Int) := of_decide_eq_true (by first | (with_reducible assumption) | assumption)
                 have q123 : x19_4 < (x9_4.length : Int) := of_decide_eq_true (by first | (with_reducible assumption) | assumption)
                 obtain ⟨ad123, e123, hx123_0⟩ := Kd.at_int (Kd.R_reads' HO_9.out).2.2 x19_4 p123 q123
                 cases e123
                 replace p123 := eq_true p123
                 replace q123 := eq_true q123
                 have p47 : 0 ≤ (x19_4 : Int) := of_decide_eq_true (by first | (with_reducible assumption) | assumption)
                 have q47 : (x19_4 : Int) < ((x9_4.length : Int) : Int) := of_decide_eq_true (by first | (with_reducible assumption) | assumption)
                 obtain ⟨go47, co47, eo47, gb47, gl47, cl47, HG47⟩ := Kd.R_form HO_9.out (by omega)
                 (first | cases eo47 | (injection eo47 with ea_ en_ ec_; (first | subst ea_ | (injection ea_ with ea_; subst ea_)); subst ec_; clear en_))
                 have GB47 := Aside0.mk gb47
                 have GG47 := Aside0.mk HG47
                 clear gb47 gl47 HG47
                 (first | simp only [add_plain] at hx123_0 | skip)
                 obtain ⟨hx47_0, hf47_0⟩ := Kd.R_celln 0 HO_9.out (x19_4 : Int) p47 q47
                 replace p47 := eq_true p47
                 replace q47 := eq_true q47
                 have HP49 := Kd.R_putg HO_9.out (x19_4 : Int) (wrap64 (-(rd x9_4 x19_4)))
                 go_wp2_with (first | ((with_reducible refine gate_store (t := 3) (p := 129) rfl ?_); (try (rw [drewN_self wr]; generalize hq_ : World.drewN wr _ = wr; have n0_ := Aside0.mk (Kd.R_at hq_ HO_9.out); have n1_ := Aside0.mk (below_at hq_ HB.out); clear hq_ HO_9 HB; have HO_9 := n0_; have HB := n1_; clear n0_ n1_; (try (have HP49 := Kd.R_putg HO_9.out (x19_4 : Int) (wrap64 (-(rd x9_4 x19_4))))))); refine store_event (t := 3) (p := 129) (v := ?vo_w50) (w1 := (wr.setCell ⟨go47, (x19_4 : Int).toNat, none⟩ (.int .i64 (wrap64 (-(rd x9_4 x19_4)))))) ?hg ?ho ?hn ?hr ?_; (case ho => rfl); (case hg => rfl); (case hn => rfl); (case hr => first | (go_simp; done) | (go_simp; rfl)); intro w50 hw; have hg : wr.grownBy w50 (some go47) := (by rw [hw]; exact HP49.2); have hp_ : Kd.R (Kd.int .i64) 3 w50 w.heap.size (fun _ => True) (.slice (some ⟨go47, 0, none⟩) x9_4.length co48) y124 := (by rw [hw, Ny124.out]; exact HP49.1); clear HP49; have n0_ := Aside0.mk (hp_); have n1_ := Aside0.mk ((by rw [hw]; exact below_set (HB.out) GB47.out : Below w.heap.size w w50)); clear HO_9; clear HB; have HO_9 := n0_; have HB := n1_; clear n0_ n1_; clear hg hw hp_))
                 repeat (go_quiet (first | ((with_reducible refine gate_store (t := 3) (p := 129) rfl ?_); (try (rw [drewN_self wr]; generalize hq_ : World.drewN wr _ = wr; have n0_ := Aside0.mk (Kd.R_at hq_ HO_9.out); have n1_ := Aside0.mk (below_at hq_ HB.out); clear hq_ HO_9 HB; have HO_9 := n0_; have HB := n1_; clear n0_ n1_; (try (have HP49 := Kd.R_putg HO_9.out (x19_4 : Int) (wrap64 (-(rd x9_4 x19_4))))))); refine store_event (t := 3) (p := 129) (v := ?vo_w50) (w1 := (wr.setCell ⟨go47, (x19_4 : Int).toNat, none⟩ (.int .i64 (wrap64 (-(rd x9_4 x19_4)))))) ?hg ?ho ?hn ?hr ?_; (case ho => rfl); (case hg => rfl); (case hn => rfl); (case hr => first | (go_simp; done) | (go_simp; rfl)); intro w50 hw; have hg : wr.grownBy w50 (some go47) := (by rw [hw]; exact HP49.2); have hp_ : Kd.R (Kd.int .i64) 3 w50 w.heap.size (fun _ => True) (.slice (some ⟨go47, 0, none⟩) x9_4.length co48) y124 := (by rw [hw, Ny124.out]; exact HP49.1); clear HP49; have n0_ := Aside0.mk (hp_); have n1_ := Aside0.mk ((by rw [hw]; exact below_set (HB.out) GB47.out : Below w.heap.size w w50)); clear HO_9; clear HB; have HO_9 := n0_; have HB := n1_; clear n0_ n1_; clear hg hw hp_)); try go_wp2_with (first | ((with_reducible refine gate_store (t := 3) (p := 129) rfl ?_); (try (rw [drewN_self wr]; generalize hq_ : World.drewN wr _ = wr; have n0_ := Aside0.mk (Kd.R_at hq_ HO_9.out); have n1_ := Aside0.mk (below_at hq_ HB.out); clear hq_ HO_9 HB; have HO_9 := n0_; have HB := n1_; clear n0_ n1_; (try (have HP49 := Kd.R_putg HO_9.out (x19_4 : Int) (wrap64 (-(rd x9_4 x19_4))))))); refine store_event (t := 3) (p := 129) (v := ?vo_w50) (w1 := (wr.setCell ⟨go47, (x19_4 : Int).toNat, none⟩ (.int .i64 (wrap64 (-(rd x9_4 x19_4)))))) ?hg ?ho ?hn ?hr ?_; (case ho => rfl); (case hg => rfl); (case hn => rfl); (case hr => first | (go_simp; done) | (go_simp; rfl)); intro w50 hw; have hg : wr.grownBy w50 (some go47) := (by rw [hw]; exact HP49.2); have hp_ : Kd.R (Kd.int .i64) 3 w50 w.heap.size (fun _ => True) (.slice (some ⟨go47, 0, none⟩) x9_4.length co48) y124 := (by rw [hw, Ny124.out]; exact HP49.1); clear HP49; have n0_ := Aside0.mk (hp_); have n1_ := Aside0.mk ((by rw [hw]; exact below_set (HB.out) GB47.out : Below w.heap.size w w50)); clear HO_9; clear HB; have HO_9 := n0_; have HB := n1_; clear n0_ n1_; clear hg hw hp_)))
                 go_roundg k4
                 case measure => have := HJ4.out; have := HK2.out; have := HK3.out; have := HK4.out; omega
                 case rel => exact ⟨(y124), (wrap64 (x19_4 + 1)), (by first | rfl | (simp; done) | (simp [*]; done)), H', ⟨by have := HJ4.out; have := HK2.out; have := HK3.out; have := HK4.out; omega⟩, ⟨by (with_reducible repeat (first | apply Kd.R_alloc | apply Kd.R_drewN | apply Kd.R_drew)); exact HO_9.out⟩, ⟨by repeat (first | (with_reducible first | exact HB.out | apply below_alloc | apply pw_below_drewN | apply below_drew1) | exact HB.out)⟩⟩
                ·rw [if_neg c46] at H
                 exact absurd H (by simp)
               ·rw [if_neg c45] at H
                have c45b0 : decide (a0 < 0) = false := decide_eq_false c45
                clear c45
                simp only [Option.some.injEq, Prod.mk.injEq] at H
                obtain ⟨rfl, rfl⟩ := H
                obtain ⟨Ao51, co51, eo51⟩ := Kd.R_slice HO_9.out
                subst eo51
                go_wp2
                repeat (go_quiet (fail); try go_wp2)
                go_ret2
                exact ⟨_, by first | rfl | (simp [errW_none, errW_some] <;> rfl) | (simp [*, errW_none, errW_some] <;> rfl), by (with_reducible repeat (first | apply Kd.R_alloc | apply Kd.R_drewN | apply Kd.R_drew)); exact HO_9.out, by repeat (first | (with_reducible first | exact HB.out | apply below_alloc | apply pw_below_drewN | apply below_drew1) | exact HB.out)⟩
              ·rw [if_neg c44] at H
               have c44b0 : decide (x19_4 < (x9_4.length : Int)) = false := decide_eq_false c44
               clear c44
               simp only [Option.some.injEq, Prod.mk.injEq] at H
               obtain ⟨rfl, rfl⟩ := H
               obtain ⟨Ao52, co52, eo52⟩ := Kd.R_slice HO_9.out
               subst eo52
               go_wp2
               repeat (go_quiet (fail); try go_wp2)
               go_ret2
               exact ⟨_, by first | rfl | (simp [errW_none, errW_some] <;> rfl) | (simp [*, errW_none, errW_some] <;> rfl), by (with_reducible repeat (first | apply Kd.R_alloc | apply Kd.R_drewN | apply Kd.R_drew)); exact HO_9.out, by repeat (first | (with_reducible first | exact HB.out | apply below_alloc | apply pw_below_drewN | apply below_drew1) | exact HB.out)⟩
     ·rw [if_neg c8] at H
      exact absurd H (by simp)
    ·rw [if_neg c7] at H
     exact absurd H (by simp)
 ·rw [if_neg c4] at H
  have c4b0 : (t102 == 0) = false := beq_eq_false_iff_ne.mpr c4
  have c4b1 : (t102 != 0) = true := bne_iff_ne.mpr c4
  simp only [Option.some.injEq, Prod.mk.injEq] at H
  obtain ⟨rfl, rfl⟩ := H
  go_enter Try.func14, Try.ntmps14
  go_wp2_with (first | (go_at_call 23; (with_reducible refine (accountingref08_total.calls k a0 _ _ l1 t101 t102 _ ?side1 ?side2 A3.out).mono ?_); (case side1 => repeat (first | exact HR1.out | (with_reducible refine Kd.C_alloc ?_ _) | (with_reducible refine Kd.C_drewN ?_ _) | (with_reducible refine Kd.C_drew ?_))); (case side2 => exact HC1.out); rintro e w' ⟨rfl, ⟨nd, rfl⟩⟩; (try first | exact ⟨rfl, _, World.drewN_drewN _ _ _⟩ | exact ⟨rfl, _, Eq.trans (World.drewN_drewN _ _ _) (congrArg (World.drewN _) (Nat.add_assoc _ _ _))⟩)))
  repeat (go_quiet (first | (go_at_call 23; (with_reducible refine (accountingref08_total.calls k a0 _ _ l1 t101 t102 _ ?side1 ?side2 A3.out).mono ?_); (case side1 => repeat (first | exact HR1.out | (with_reducible refine Kd.C_alloc ?_ _) | (with_reducible refine Kd.C_drewN ?_ _) | (with_reducible refine Kd.C_drew ?_))); (case side2 => exact HC1.out); rintro e w' ⟨rfl, ⟨nd, rfl⟩⟩; (try first | exact ⟨rfl, _, World.drewN_drewN _ _ _⟩ | exact ⟨rfl, _, Eq.trans (World.drewN_drewN _ _ _) (congrArg (World.drewN _) (Nat.add_assoc _ _ _))⟩))); try go_wp2_with (first | (go_at_call 23; (with_reducible refine (accountingref08_total.calls k a0 _ _ l1 t101 t102 _ ?side1 ?side2 A3.out).mono ?_); (case side1 => repeat (first | exact HR1.out | (with_reducible refine Kd.C_alloc ?_ _) | (with_reducible refine Kd.C_drewN ?_ _) | (with_reducible refine Kd.C_drew ?_))); (case side2 => exact HC1.out); rintro e w' ⟨rfl, ⟨nd, rfl⟩⟩; (try first | exact ⟨rfl, _, World.drewN_drewN _ _ _⟩ | exact ⟨rfl, _, Eq.trans (World.drewN_drewN _ _ _) (congrArg (World.drewN _) (Nat.add_assoc _ _ _))⟩))))
  go_ret2
  exact ⟨_, by first | rfl | (simp [errW_none, errW_some] <;> rfl) | (simp [*, errW_none, errW_some] <;> rfl), by first | exact Kd.R_nil _ _ _ _ _ | exact Kd.N_nil _ _ _ _ _ | exact Kd.V_nil _ _ _ _ _ | exact Kd.Q_nil _ _ _ _ _ | exact Kd.S_nil _ _ _ _ _, by repeat (first | (with_reducible first | exact HB.out | apply below_alloc | apply pw_below_drewN | apply below_drew1) | exact HB.out)⟩

end Go.Proofs.Ytikglhfeookhaaa.M
end
section
/- The specification of split.Shares comes to the same list. -/
namespace Go.Proofs.Ytikglhfeookhaaa.M
open Go.RowKit Go.Proofs.YtikglhfeookhaaaW.PrintWords Dv
set_option linter.unusedVariables false
theorem accountingref08_total.go1 : ∀ (B A : List Int) (s i : Int), i = (A.length : Int) → (A ++ B).length < 1000000 → 0 ≤ s → s ≤ 1000000000000000 → (∀ x ∈ B, 0 ≤ x ∧ x ≤ 9223372036854775807) → Ev (fun k => accountingref08_total.l1 k (A ++ B) s i) (sumFrom s B)
  | [], A, s, i, hi, hs, h0, h1, hB => by
    refine Ev.succ ?_
    have g : ¬ i < ((A ++ []).length : Int) := by simp; omega
    simp only [accountingref08_total.l1, if_neg g, sumFrom, List.sum_nil, Int.add_zero, if_neg (show ¬ s > 1000000000000000 by omega)]
    split
    · exact Ev.const _
    · exact Ev.const _
  | x :: B, A, s, i, hi, hs, h0, h1, hB => by
    simp only [List.length_append, List.length_cons] at hs
    have g1 : 0 ≤ i := by omega
    have g2 : i < ((A ++ x :: B).length : Int) := by simp; omega
    have r := rd_at A x B i hi
    have e : wrap64 (i + 1) = i + 1 := w64 (by omega) (by omega)
    have hx := hB x (by simp)
    have e2 : wrap64 (1000000000000000 - s) = 1000000000000000 - s := w64 (by omega) (by omega)
    have hBs := sum_nonneg B (fun y hy => (hB y (by simp [hy])).1)
    refine Ev.succ ?_
    by_cases hc : x > 1000000000000000 - s
    · simp only [accountingref08_total.l1, if_pos g1, if_pos g2, r, e2, if_pos hc]
      have : sumFrom s (x :: B) = (0, 4) := by unfold sumFrom; rw [List.sum_cons, if_pos (by omega)]
      rw [this]; exact Ev.const _
    · have e3 : wrap64 (s + x) = s + x := w64 (by omega) (by omega)
      simp only [accountingref08_total.l1, if_pos g1, if_pos g2, r, e2, if_neg hc, e, e3]
      have ih := accountingref08_total.go1 B (A ++ [x]) (s + x) (i + 1) (by simp; omega) (by simp only [List.length_append, List.length_cons, List.length_nil]; omega) (by omega) (by omega) (fun y hy => hB y (by simp [hy]))
      have : sumFrom s (x :: B) = sumFrom (s + x) B := by unfold sumFrom; rw [List.sum_cons, Int.add_assoc]
      rw [this]; simpa using ih
theorem accountingref08_total.go0 (L : List Int) (hL : ∀ x ∈ L, x ≤ 9223372036854775807) (hs : L.length < 1000000) : ∀ (B A : List Int) (i : Int), L = A ++ B → i = (A.length : Int) → (∀ x ∈ A, 0 ≤ x) → Ev (fun k => accountingref08_total.l0 k L i) (if ∃ x ∈ B, x < 0 then (0, 2) else sumFrom 0 L)
  | [], A, i, he, hi, hA => by
    refine Ev.succ ?_
    have g : ¬ i < (L.length : Int) := by subst he; simp; omega
    simp only [accountingref08_total.l0, if_neg g]
    have := accountingref08_total.go1 L [] 0 0 rfl (by simpa using hs) (by omega) (by omega) (fun x hx => ⟨by subst he; exact hA x (by simpa using hx), hL x hx⟩)
    simpa using this
  | x :: B, A, i, he, hi, hA => by
    have hl : (L.length : Int) = A.length + B.length + 1 := by subst he; simp; omega
    have g1 : 0 ≤ i := by omega
    have g2 : i < (L.length : Int) := by omega
    have r : rd L i = x := by subst he; exact rd_at A x B i hi
    have e : wrap64 (i + 1) = i + 1 := w64 (by omega) (by omega)
    refine Ev.succ ?_
    by_cases hx : x < 0
    · simp only [accountingref08_total.l0, if_pos g1, if_pos g2, r, if_pos hx]
      rw [if_pos ⟨x, by simp, hx⟩]; exact Ev.const _
    · simp only [accountingref08_total.l0, if_pos g1, if_pos g2, r, if_neg hx, e]
      have ih := accountingref08_total.go0 L hL hs B (A ++ [x]) (i + 1) (by simp [he]) (by simp; omega) (fun y hy => by
        rcases List.mem_append.1 hy with h | h
        · exact hA y h
        · rw [List.mem_singleton.1 h]; omega)
      have : (∃ y ∈ x :: B, y < 0) ↔ ∃ y ∈ B, y < 0 := by simp [hx]
      simp only [this]
      exact ih
/-! The specification. -/
theorem accountingref08_Shares.neg (a : Int) (ha : a < 0) : ∀ (B A : List Int) (i : Int), i = (A.length : Int) → (A ++ B).length < 1000000 → (∀ v ∈ B, 0 ≤ v ∧ v ≤ 2000000000000000) → Ev (fun k => accountingref08_Shares.l3 k a (A ++ B) i) (A ++ B.map (fun x => -x), 0)
  | [], A, i, hi, hs, hB => by
    refine Ev.succ ?_
    have g : ¬ i < ((A ++ []).length : Int) := by simp; omega
    simp only [accountingref08_Shares.l3, if_neg g]
    simpa using Ev.const _
  | x :: B, A, i, hi, hs, hB => by
    simp only [List.length_append, List.length_cons] at hs
    have g1 : 0 ≤ i := by omega
    have g2 : i < ((A ++ x :: B).length : Int) := by simp; omega
    have r := rd_at A x B i hi
    have hx := hB x (by simp)
    have e : wrap64 (i + 1) = i + 1 := w64 (by omega) (by omega)
    have e2 : wrap64 (-x) = -x := w64 (by omega) (by omega)
    refine Ev.succ ?_
    simp only [accountingref08_Shares.l3, if_pos ha, if_pos g1, if_pos g2, r, e, e2, set_at A x (-x) B i hi]
    have ih := accountingref08_Shares.neg a ha B (A ++ [-x]) (i + 1) (by simp; omega) (by simp only [List.length_append, List.length_cons, List.length_nil]; omega) (fun z hz => hB z (by simp [hz]))
    simpa using ih
/-- The largest of the remainders that are left is found. -/
theorem accountingref08_Shares.best (a : Int) (r P R Y1 Z2 : List Int) (z : Int) (left : Int) (X : List Int × Int) (hn : r.length < 1000) (hr : ∀ x ∈ r, 0 ≤ x) (hRl : R.length = r.length) (hPl : P.length = r.length) (hZ : (Y1 ++ z :: Z2).Perm (idx r.length)) (hS : (Y1 ++ z :: Z2).Pairwise (rOrd r))
    (hR : ∀ i : Int, 0 ≤ i → i < r.length → rd R i = if i ∈ Y1 then -1 else rd r i)
    (hX : Ev (fun k => accountingref08_Shares.l1 k a (P.set z.toNat (wrap64 (rd P z + 1))) (R.set z.toNat (-1)) (wrap64 (left - 1))) X) :
    ∀ (d : Nat) (b i : Int), i + d = r.length → 0 ≤ i → (z < i ∨ z = 0 → b = z) → (¬ (z < i ∨ z = 0) → 0 ≤ b ∧ b < z) → Ev (fun k => accountingref08_Shares.l2 k a P R left b i) X := by
  have hz : 0 ≤ z ∧ z < r.length := (mem_idx _ _).1 (hZ.mem_iff.1 (by simp))
  have nd : (Y1 ++ z :: Z2).Nodup := List.Pairwise.imp (S := fun x y => x ≠ y) (fun {x y} h e => (rOrd.tot r).irr x (by rw [← e] at h; exact h)) hS
  have hzY : z ∉ Y1 := fun h => by
    have := (List.nodup_append.1 nd).2.2 z h z (by simp)
    exact this rfl
  have rz : rd R z = rd r z := by rw [hR z hz.1 hz.2, if_neg hzY]
  have rz0 : 0 ≤ rd r z := hr _ (rd_mem' r z hz.1 hz.2)
  have wh : ∀ i : Int, 0 ≤ i → i < r.length → i ∈ Y1 ∨ i = z ∨ (i ∉ Y1 ∧ rOrd r z i) := fun i h0 h1 => by
    have := hZ.mem_iff.2 ((mem_idx r.length i).2 ⟨h0, h1⟩)
    rcases List.mem_append.1 this with h | h
    · exact .inl h
    · rcases List.mem_cons.1 h with h | h
      · exact .inr (.inl h)
      · refine .inr (.inr ⟨fun k => ?_, ?_⟩)
        · exact (List.nodup_append.1 nd).2.2 i k i (by simp [h]) rfl
        · exact (List.pairwise_cons.1 (List.pairwise_append.1 hS).2.1).1 i h
  intro d
  induction d with
  | zero =>
    intro b i hd hi h1 h2
    have hb : b = z := h1 (by omega)
    subst hb
    refine Ev.succ ?_
    have g : ¬ i < (R.length : Int) := by omega
    have g2 : b < (P.length : Int) := by omega
    have g3 : b < (R.length : Int) := by omega
    simp only [accountingref08_Shares.l2, if_neg g, if_pos hz.1, if_pos g2, if_pos g3]
    exact hX
  | succ d ih =>
    intro b i hd hi h1 h2
    have g : i < (R.length : Int) := by omega
    have g1 : 0 ≤ b := by
      by_cases c : z < i ∨ z = 0
      · rw [h1 c]; exact hz.1
      · exact (h2 c).1
    have g2 : b < (R.length : Int) := by
      by_cases c : z < i ∨ z = 0
      · rw [h1 c]; omega
      · have := (h2 c).2; omega
    have e : wrap64 (i + 1) = i + 1 := w64 (by omega) (by omega)
    refine Ev.succ ?_
    simp only [accountingref08_Shares.l2, if_pos g, if_pos hi, if_pos g1, if_pos g2, e]
    by_cases c : z < i ∨ z = 0
    · have hb := h1 c
      subst hb
      have ng : ¬ rd R i > rd R b := by
        rw [rz, hR i hi (by omega)]
        rcases wh i hi (by omega) with w | w | w
        · rw [if_pos w]; omega
        · subst w; rw [if_neg hzY]; omega
        · rw [if_neg w.1]
          have := w.2
          unfold rOrd at this
          omega
      simp only [if_neg ng]
      exact ih b (i + 1) (by omega) (by omega) (fun _ => rfl) (fun k => by omega)
    · have hb := h2 c
      by_cases ci : i = z
      · subst ci
        have yg : rd R i > rd R b := by
          rw [rz, hR b hb.1 (by omega)]
          rcases wh b hb.1 (by omega) with w | w | w
          · rw [if_pos w]; omega
          · omega
          · rw [if_neg w.1]
            have := w.2
            unfold rOrd at this
            omega
        simp only [if_pos yg]
        exact ih i (i + 1) (by omega) (by omega) (fun _ => rfl) (fun k => by omega)
      · by_cases yg : rd R i > rd R b
        · simp only [if_pos yg]
          exact ih i (i + 1) (by omega) (by omega) (fun k => by omega) (fun k => by omega)
        · simp only [if_neg yg]
          exact ih b (i + 1) (by omega) (by omega) (fun k => by omega) (fun k => by omega)
theorem accountingref08_Shares.pick (a : Int) (r : List Int) (X : List Int × Int) (hn : r.length < 1000) (hr : ∀ x ∈ r, 0 ≤ x) : ∀ (Y2 Y1 Z3 P R : List Int) (left : Int), R.length = r.length → P.length = r.length → (Y1 ++ Y2 ++ Z3).Perm (idx r.length) → (Y1 ++ Y2 ++ Z3).Pairwise (rOrd r) → left = (Y2.length : Int) →
    (∀ i : Int, 0 ≤ i → i < r.length → rd R i = if i ∈ Y1 then -1 else rd r i) → (∀ v ∈ P, 0 ≤ v ∧ v + Y2.length ≤ 9000000000000000000) → Ev (fun k => accountingref08_Shares.l3 k a (inc P Y2) 0) X → Ev (fun k => accountingref08_Shares.l1 k a P R left) X
  | [], Y1, Z3, P, R, left, hRl, hPl, hZ, hS, hl, hR, hP, hX => by
    refine Ev.succ ?_
    have g : ¬ left > 0 := by simp at hl; omega
    simp only [accountingref08_Shares.l1, if_neg g]
    exact hX
  | z :: Y2, Y1, Z3, P, R, left, hRl, hPl, hZ, hS, hl, hR, hP, hX => by
    simp only [List.length_cons] at hl hP
    have g : left > 0 := by omega
    have hZ' : (Y1 ++ z :: (Y2 ++ Z3)).Perm (idx r.length) := by simpa using hZ
    have hS' : (Y1 ++ z :: (Y2 ++ Z3)).Pairwise (rOrd r) := by simpa using hS
    have hz : 0 ≤ z ∧ z < r.length := (mem_idx _ _).1 (hZ'.mem_iff.1 (by simp))
    have e : wrap64 (left - 1) = left - 1 := w64 (by
      omega) (by
      have : (Y1 ++ z :: Y2 ++ Z3).length = r.length := by rw [hZ.length_eq, idx_length]
      simp only [List.length_append, List.length_cons] at this
      omega)
    have hm := hP _ (rd_mem' P z hz.1 (by omega))
    have e2 : wrap64 (rd P z + 1) = rd P z + 1 := w64 (by omega) (by omega)
    refine Ev.succ ?_
    simp only [accountingref08_Shares.l1, if_pos g]
    refine accountingref08_Shares.best a r P R Y1 (Y2 ++ Z3) z left X hn hr hRl hPl hZ' hS' hR ?_ r.length 0 0 (by omega) (by omega) (fun k => by omega) (fun k => by omega)
    rw [e, e2]
    refine accountingref08_Shares.pick a r X hn hr Y2 (Y1 ++ [z]) Z3 _ _ (left - 1) (by simpa using hRl) (by simpa using hPl) (by simpa using hZ) (by simpa using hS) (by omega) (fun i h0 h1 => ?_) (fun v hv => ?_) hX
    · rw [rd_set R z i _ hz.1 (by omega) h0, hR i h0 h1]
      by_cases c : i = z
      · subst c; simp
      · simp [c]
    · rcases mem_set' hv with rfl | hv
      · omega
      · have := hP v hv; omega
theorem accountingref08_Shares.go0 (a s t : Int) (h0 : 0 ≤ s) (h1 : s ≤ 1000000000000000) (h4 : 0 < t) (ht : t ≤ 1000000000000000) (X : List Int × Int) : ∀ (W2 W1 : List Int) (i left : Int), i = (W1.length : Int) → (W1 ++ W2).length ≤ 1000 → (∀ w ∈ W2, 0 ≤ w ∧ w ≤ t) → left ≤ 1000000000000000 → -1000000000000000 * i ≤ left →
    Ev (fun k => accountingref08_Shares.l1 k a (qs s t (W1 ++ W2)) (rs s t (W1 ++ W2)) (left - (qs s t W2).sum)) X →
    Ev (fun k => accountingref08_Shares.l0 k a (W1 ++ W2) t s (qs s t W1 ++ List.replicate W2.length 0) (rs s t W1 ++ List.replicate W2.length 0) left i) X
  | [], W1, i, left, hi, hs, hw, l1, l2, hX => by
    refine Ev.succ ?_
    have g : ¬ i < ((W1 ++ []).length : Int) := by simp; omega
    simp only [accountingref08_Shares.l0, if_neg g]
    simpa [qs, rs] using hX
  | w :: W2, W1, i, left, hi, hs, hw, l1, l2, hX => by
    simp only [List.length_append, List.length_cons] at hs
    have hw0 := hw w (by simp)
    have g1 : 0 ≤ i := by omega
    have g2 : i < ((W1 ++ w :: W2).length : Int) := by simp; omega
    have r := rd_at W1 w W2 i hi
    obtain ⟨m1, m2, m3⟩ := mdv_down h0 h1 hw0.1 hw0.2 h4
    have M := accountingref02_MulDiv.eq (a := s) (b := w) (c := t) 1 (by unfold inI; omega) (by unfold inI; omega) (by unfold inI; omega)
    have D := accountingref02_Mod.eq (a := s) (b := w) (c := t) (by unfold inI; omega) (by unfold inI; omega) (by unfold inI; omega)
    rw [m1] at M
    rw [modv_down h4] at D
    have e : wrap64 (i + 1) = i + 1 := w64 (by omega) (by omega)
    have e2 : wrap64 (left - s * w / t) = left - s * w / t := w64 (by omega) (by omega)
    have lq : (qs s t W1).length = W1.length := by simp [qs]
    have lr : (rs s t W1).length = W1.length := by simp [rs]
    have g3 : i < ((qs s t W1 ++ List.replicate (w :: W2).length (0 : Int)).length : Int) := by simp [lq]; omega
    have g4 : i < ((rs s t W1 ++ List.replicate (w :: W2).length (0 : Int)).length : Int) := by simp [lr]; omega
    refine Ev.succ ?_
    simp only [accountingref08_Shares.l0, if_pos g1, if_pos g2, r]
    refine Ev.bind M ?_
    refine Ev.bind D ?_
    have s1 : (qs s t W1 ++ List.replicate (w :: W2).length (0 : Int)).set i.toNat (s * w / t) = qs s t (W1 ++ [w]) ++ List.replicate W2.length 0 := by
      rw [List.length_cons, List.replicate_succ, set_at _ _ _ _ _ (by rw [lq]; exact hi), qs_snoc]; simp
    have s2 : (rs s t W1 ++ List.replicate (w :: W2).length (0 : Int)).set i.toNat (s * w % t) = rs s t (W1 ++ [w]) ++ List.replicate W2.length 0 := by
      rw [List.length_cons, List.replicate_succ, set_at _ _ _ _ _ (by rw [lr]; exact hi), rs_snoc]; simp
    have s3 : rd (qs s t (W1 ++ [w]) ++ List.replicate W2.length 0) i = s * w / t := by
      rw [qs_snoc, List.append_assoc]; exact rd_at _ _ _ _ (by rw [lq]; exact hi)
    simp only [if_pos g3, if_pos g4, s1, s2, Option.bind_some, s3, e, e2]
    have ih := accountingref08_Shares.go0 a s t h0 h1 h4 ht X W2 (W1 ++ [w]) (i + 1) (left - s * w / t) (by simp; omega) (by simp only [List.length_append, List.length_cons, List.length_nil]; omega) (fun z hz => hw z (by simp [hz])) (by omega) (by omega) (by
      have e5 : (qs s t (w :: W2)).sum = s * w / t + (qs s t W2).sum := by simp [qs]
      have e6 : left - s * w / t - (qs s t W2).sum = left - (qs s t (w :: W2)).sum := by omega
      rw [e6]
      simpa using hX)
    simpa using ih
theorem accountingref08_Shares.j0_eq {a s : Int} {l : List Int} (h : Fit s l) (X : List Int × Int) (hX : Ev (fun k => accountingref08_Shares.l3 k a (pos s l) 0) X) : Ev (fun k => accountingref08_Shares.j0 k a l l.sum s) X := by
  have g1 : (0 : Int) ≤ (l.length : Int) := by omega
  have g2 : (l.length : Int).toNat ≤ 35184372088832 := by have := h.n; omega
  have hn := h.n
  have lb := lf_bounds s l h.t0
  have hl : (rk (rs s l.sum l)).length = l.length := by rw [h.rk.1.length_eq, idx_length]
  refine Ev.succ ?_
  simp only [accountingref08_Shares.j0, if_pos g1, if_pos g2]
  have hrl : (rs s l.sum l).length = l.length := by simp [rs]
  have hql : (qs s l.sum l).length = l.length := by simp [qs]
  have := accountingref08_Shares.go0 a s l.sum h.s0 h.s1 h.t0 h.t1 X l [] 0 s rfl (by simp; omega) h.w h.s1 (by have := h.s0; omega) (by
    have hk := h.rk
    have he : rk (rs s l.sum l) = (rk (rs s l.sum l)).take (lf s l.sum l).toNat ++ (rk (rs s l.sum l)).drop (lf s l.sum l).toNat := (List.take_append_drop _ _).symm
    refine accountingref08_Shares.pick a (rs s l.sum l) X (by omega) (fun x hx => (rs_bounds s l.sum h.t0 l x hx).1) ((rk (rs s l.sum l)).take (lf s l.sum l).toNat) [] ((rk (rs s l.sum l)).drop (lf s l.sum l).toNat) _ _ _ rfl (by simp [qs, rs]) ?_ ?_ ?_ (fun i _ _ => by simp) (fun v hv => ?_) hX
    · rw [List.nil_append, ← he, hrl]; exact hk.1
    · rw [List.nil_append, ← he]; exact hk.2
    · rw [List.length_take, hl]
      show lf s l.sum l = _
      omega
    · have := qs_bounds h.s0 h.s1 h.t0 l h.w v hv
      have : ((rk (rs s l.sum l)).take (lf s l.sum l).toNat).length ≤ 200 := by simp; omega
      omega)
  simpa [qs, rs] using this
theorem accountingref08_total.eq {a : Int} {l : List Int} (hl : l.length < 100000000000000) (hw : ∀ x ∈ l, x ≤ 9223372036854775807) : Ev (fun k => accountingref08_total.f k a l) (if shErr a l = 0 then l.sum else 0, shErr a l) := by
  by_cases c1 : l.length > 200
  · have c1' : (l.length : Int) > 200 := by omega
    have : shErr a l = 9 := by unfold shErr; rw [if_pos c1]
    rw [this]
    simp only [accountingref08_total.f, if_pos c1']
    exact Ev.const _
  · have c1' : ¬ (l.length : Int) > 200 := by omega
    have J : ∀ b, b = (decide (a > 1000000000000000 ∨ a < -1000000000000000)) → Ev (fun k => accountingref08_total.j0 k l b) (if shErr a l = 0 then l.sum else 0, shErr a l) := by
      intro b hb
      subst hb
      refine Ev.succ ?_
      by_cases c2 : a > 1000000000000000 ∨ a < -1000000000000000
      · have : shErr a l = 4 := by unfold shErr; rw [if_neg c1, if_pos c2]
        rw [this]
        simp only [accountingref08_total.j0, decide_eq_true c2, if_true]
        exact Ev.const _
      · simp only [accountingref08_total.j0, decide_eq_false c2, Bool.false_eq_true, if_false]
        have T := accountingref08_total.go0 l hw (by omega) l [] 0 rfl rfl (by simp)
        have e : (if ∃ x ∈ l, x < 0 then ((0 : Int), (2 : Int)) else sumFrom 0 l) = (if shErr a l = 0 then l.sum else 0, shErr a l) := by
          rw [sumFrom_zero]
          unfold shErr
          rw [if_neg c1, if_neg c2]
          by_cases c3 : ∃ x ∈ l, x < 0
          · simp [if_pos c3]
          · simp only [if_neg c3]
            by_cases c4 : l.sum > 1000000000000000
            · simp [if_pos c4]
            · simp only [if_neg c4]
              by_cases c5 : l.sum = 0
              · simp [if_pos c5]
              · simp [if_neg c5]
        rw [e] at T
        exact T
    by_cases c2 : a > 1000000000000000
    · simp only [accountingref08_total.f, if_neg c1', if_pos c2]
      exact J true (by simp [c2])
    · simp only [accountingref08_total.f, if_neg c1', if_neg c2]
      exact J _ (by simp [c2])
theorem accountingref08_Shares.eq {a : Int} {l : List Int} (hl : l.length < 100000000000000) (hw : ∀ x ∈ l, x ≤ 9223372036854775807) : Ev (fun k => accountingref08_Shares.f k a l) (if shErr a l = 0 then shr a l else [], shErr a l) := by
  unfold accountingref08_Shares.f
  refine Ev.bind (accountingref08_total.eq hl hw) ?_
  by_cases z : shErr a l = 0
  · have F := shErr_le z
    simp only [if_pos z]
    have hb : -1000000000000000 ≤ a ∧ a ≤ 1000000000000000 := by
      have := F.s0; have := F.s1
      split at F <;> omega
    unfold shr
    by_cases c6 : a < 0
    · simp only [if_pos c6] at F ⊢
      rw [w64 (n := -a) (by omega) (by omega)]
      refine accountingref08_Shares.j0_eq F _ ?_
      have hlen : ((pos (-a) l).length : Int) ≤ 200 := by
        have := F.n
        unfold pos; rw [inc_length]; simp [qs]; omega
      have := accountingref08_Shares.neg a c6 (pos (-a) l) [] 0 rfl (by simp; omega) (pos_bounds F)
      rw [z]
      simpa using this
    · simp only [if_neg c6] at F ⊢
      refine accountingref08_Shares.j0_eq F _ (Ev.succ ?_)
      rw [z]
      by_cases c7 : (0 : Int) < ((pos a l).length : Int)
      · simp only [accountingref08_Shares.l3, if_pos c7, if_neg c6]; exact Ev.const _
      · simp only [accountingref08_Shares.l3, if_neg c7]; exact Ev.const _
  · simp only [if_neg z]
    exact Ev.const _
end Go.Proofs.Ytikglhfeookhaaa.M
end
section
-- Written by mprint.py (a program of this session) over the kit's print.
namespace Go.Proofs.Ytikglhfeookhaaa.M
open Go.RowKit Go.Proofs.YtikglhfeookhaaaW.PrintWords Go.Proofs.YtikglhfeookhaaaW.PrintLast Go.Proofs.YtikglhfeookhaaaW.PrintMore
attribute [local go_sem] max2_int min2_int max_two min_two max_three min_three max_four min_four   -- for this text's walks alone
set_option linter.unusedVariables false
set_option linter.unusedSimpArgs false

/-! ### accountingref08_Even: function 17 -/
def accountingref08_Even.l0 : Nat → Int → Int → List Int → Int → Option (List Int × Int)
  | 0, _, _, _, _ => none
  | k + 1, x0, x1, x6, x7 => if x7 < x1 then (if 0 ≤ x7 then (if x7 < (x6.length : Int) then (accountingref08_Even.l0 k x0 x1 (x6.set (x7 : Int).toNat 1) (wrap64 (x7 + 1))) else (none)) else (none)) else ((accountingref08_Shares.f k x0 x6).bind fun bt105 => (some (bt105.1, bt105.2)))
def accountingref08_Even.f (k : Nat) (a0 : Int) (a1 : Int) : Option (List Int × Int) := if a1 < 1 then (some (([] : List Int), 2)) else (if a1 > 200 then (some (([] : List Int), 9)) else (if 0 ≤ a1 then (if (a1 : Int).toNat ≤ 35184372088832 then (accountingref08_Even.l0 k a0 a1 (List.replicate (a1 : Int).toNat 0) 0) else (none)) else (none)))
theorem accountingref08_Even.mono_l : ∀ k, (∀ y0 y1 y2 y3, LeO (accountingref08_Even.l0 k y0 y1 y2 y3) (accountingref08_Even.l0 (k + 1) y0 y1 y2 y3))
  | 0 => fun _ _ _ _ r h => by simp [accountingref08_Even.l0] at h
  | k + 1 => by
    have ih0 := accountingref08_Even.mono_l k
    · intro y0 y1 y2 y3
      unfold accountingref08_Even.l0
      repeat' first
      | (with_reducible exact ih0 _ _ _ _)
      | (with_reducible exact accountingref08_Shares.mono _ _ _)
      | (with_reducible exact LeO.refl _)
      | (with_reducible exact LeO.none _)
      | (with_reducible refine LeO.ite ?_ ?_)
      | (with_reducible refine LeO.bind ?_ (fun _ => ?_))
      | exact ih0 _ _ _ _
      | exact accountingref08_Shares.mono _ _ _
      | exact LeO.none _
      | refine LeO.ite ?_ ?_
      | refine LeO.bind ?_ (fun _ => ?_)
theorem accountingref08_Even.mono : ∀ a0 a1 k, LeO (accountingref08_Even.f k a0 a1) (accountingref08_Even.f (k + 1) a0 a1) := by
 intro a0 a1 k
 have ih0 := accountingref08_Even.mono_l k
 unfold accountingref08_Even.f
 repeat' first
   | (with_reducible exact ih0 _ _ _ _)
   | (with_reducible exact accountingref08_Shares.mono _ _ _)
   | (with_reducible exact LeO.refl _)
   | (with_reducible exact LeO.none _)
   | (with_reducible refine LeO.ite ?_ ?_)
   | (with_reducible refine LeO.bind ?_ (fun _ => ?_))
   | exact ih0 _ _ _ _
   | exact accountingref08_Shares.mono _ _ _
   | exact LeO.none _
   | refine LeO.ite ?_ ?_
   | refine LeO.bind ?_ (fun _ => ?_)
set_option maxHeartbeats 8000000 in
set_option maxRecDepth 100000 in
theorem accountingref08_Even.calls (k : Nat) (a0 : Int) (a1 : Int) (r1 : List Int) (r2 : Int) (w : World) (h : accountingref08_Even.f k a0 a1 = some (r1, r2)) :
    Calls Try.prog 17 #[.int .i64 a0, .int .i64 a1] w fun e w' => ∃ v0_ : Value, e = .returned (.tuple #[v0_, .int .i64 r2]) ∧ Kd.R (Kd.int .i64) 3 w' w.heap.size (fun _ => True) v0_ r1 ∧ Below w.heap.size w w' := by
 have hu3 := Try.underlying3
 have HB := Aside0.mk (Below.refl w.heap.size w)
 have H : (if a1 < 1 then (some (([] : List Int), 2)) else (if a1 > 200 then (some (([] : List Int), 9)) else (if 0 ≤ a1 then (if (a1 : Int).toNat ≤ 35184372088832 then (accountingref08_Even.l0 k a0 a1 (List.replicate (a1 : Int).toNat 0) 0) else (none)) else (none)))) = some (r1, r2) := h
 clear h
 by_cases c3 : a1 < 1
 ·rw [if_pos c3] at H
  have c3b0 : decide (a1 < 1) = true := decide_eq_true c3
  clear c3
  simp only [Option.some.injEq, Prod.mk.injEq] at H
  obtain ⟨rfl, rfl⟩ := H
  go_enter Try.func17, Try.ntmps17
  go_wp2
  go_ret2
  exact ⟨_, by first | rfl | (simp [errW_none, errW_some] <;> rfl) | (simp [*, errW_none, errW_some] <;> rfl), by first | exact Kd.R_nil _ _ _ _ _ | exact Kd.N_nil _ _ _ _ _ | exact Kd.V_nil _ _ _ _ _ | exact Kd.Q_nil _ _ _ _ _ | exact Kd.S_nil _ _ _ _ _, by repeat (first | (with_reducible first | exact HB.out | apply below_alloc | apply pw_below_drewN | apply below_drew1) | exact HB.out)⟩
 ·rw [if_neg c3] at H
  have c3b0 : decide (a1 < 1) = false := decide_eq_false c3
  clear c3
  by_cases c4 : a1 > 200
  ·rw [if_pos c4] at H
   have c4b0 : decide (200 < a1) = true := decide_eq_true c4
   clear c4
   simp only [Option.some.injEq, Prod.mk.injEq] at H
   obtain ⟨rfl, rfl⟩ := H
   go_enter Try.func17, Try.ntmps17
   go_wp2
   go_ret2
   exact ⟨_, by first | rfl | (simp [errW_none, errW_some] <;> rfl) | (simp [*, errW_none, errW_some] <;> rfl), by first | exact Kd.R_nil _ _ _ _ _ | exact Kd.N_nil _ _ _ _ _ | exact Kd.V_nil _ _ _ _ _ | exact Kd.Q_nil _ _ _ _ _ | exact Kd.S_nil _ _ _ _ _, by repeat (first | (with_reducible first | exact HB.out | apply below_alloc | apply pw_below_drewN | apply below_drew1) | exact HB.out)⟩
  ·rw [if_neg c4] at H
   have c4b0 : decide (200 < a1) = false := decide_eq_false c4
   clear c4
   by_cases c5 : 0 ≤ a1
   ·rw [if_pos c5] at H
    have c5b0 := eq_true c5
    have c5b1 : decide (0 ≤ a1) = true := decide_eq_true c5
    clear c5
    by_cases c6 : (a1 : Int).toNat ≤ 35184372088832
    ·rw [if_pos c6] at H
     have c6b0 := eq_true c6
     have c6b1 : decide ((a1 : Int).toNat ≤ 35184372088832) = true := decide_eq_true c6
     clear c6
     obtain ⟨y101, hy101⟩ : ∃ y_ : List Int, y_ = (List.replicate (a1 : Int).toNat 0) := ⟨_, rfl⟩
     replace H : (accountingref08_Even.l0 k a0 a1 y101 0) = some (r1, r2) := by first | (rw [hy101]; with_reducible exact H) | (have H2_ := (Option.bind_some _ _).symm.trans H; rw [hy101]; with_reducible exact H2_) | (have H2_ := (Option.bind_some _ _).symm.trans H; with_reducible exact H2_) | with_reducible exact H | (rw [hy101]; exact H) | exact H
     have Ny101 := Aside0.mk hy101
     clear hy101
     have H' := Aside0.mk H
     clear H
     go_enter Try.func17, Try.ntmps17
     go_wp2_with (first | ((with_reducible refine gate_dst (N := 13) rfl ?_); refine Kd.R_make (Kd.int .i64) _ 3 rfl (N := 13) rfl 22 _ _ rfl a1 rfl rfl Try.underlying22 (.int .i64 0) 8 info3 rfl (by decide) (by omega) 0 (ok := fun _ => True) (okp := fun _ => True) rfl (fun _ hk => hk) trivial (of_decide_eq_true (by first | (with_reducible assumption) | assumption)) (Nat.le_trans (Nat.mul_le_mul_right _ (of_decide_eq_true (by first | (with_reducible assumption) | assumption) : a1.toNat ≤ 35184372088832)) (by omega)) (Below.refl _ _) (Nat.le_refl _) ?_; intro v102 w7 ho8 hb hg_ hnew_; clear hg_ hnew_; (first | rw [← Ny101.out] at ho8 | (simp only [Int.reduceToNat] at ho8; rw [← Ny101.out] at ho8)); have n0_ := Aside0.mk (Kd.R_lower ho8 (below_size (by repeat (first | (with_reducible first | exact HB.out | apply below_alloc | apply pw_below_drewN | apply below_drew1) | exact HB.out)))); have n1_ := Aside0.mk (below_step (by repeat (first | (with_reducible first | exact HB.out | apply below_alloc | apply pw_below_drewN | apply below_drew1) | exact HB.out)) hb); clear HB; have HO103 := n0_; have HB := n1_; clear n0_ n1_; clear hb ho8))
     go_loopg [7] k (fun kq v7 w' => ∃ (x6_1 : List Int) (x7_1 : Int), v7 = .int .i64 x7_1 ∧ Aside0 (accountingref08_Even.l0 kq a0 a1 x6_1 x7_1 = some (r1, r2)) ∧ Aside0 (kq ≤ k) ∧ Aside0 (Kd.R (Kd.int .i64) 3 w' w.heap.size (fun _ => True) v102 x6_1) ∧ Aside0 (Below w.heap.size w w'))
     case atStart => exact ⟨(y101), (0), (by first | rfl | (simp; done) | (simp [*]; done)), H', ⟨Nat.le_refl _⟩, ⟨by (with_reducible repeat (first | apply Kd.R_alloc | apply Kd.R_drewN | apply Kd.R_drew)); exact HO103.out⟩, ⟨by repeat (first | (with_reducible first | exact HB.out | apply below_alloc | apply pw_below_drewN | apply below_drew1) | exact HB.out)⟩⟩
     case round =>
      clear H'
      try clear c1
      try clear p2
      try clear c3
      try clear c3b0
      try clear c4
      try clear c4b0
      try clear c5
      try clear c5b0
      try clear c5b1
      try clear c6
      try clear c6b0
      try clear c6b1
      obtain ⟨x6_1, x7_1, rfl, HA, HK1, HO_6, HB⟩ := hrel
      cases gk with
      | zero => exact absurd HA.out (by simp [accountingref08_Even.l0])
      | succ k1 =>
       have H := HA.out
       clear HA
       simp only [accountingref08_Even.l0] at H
       by_cases c9 : x7_1 < a1
       ·rw [if_pos c9] at H
        have c9b0 : decide (x7_1 < a1) = true := decide_eq_true c9
        clear c9
        by_cases c10 : 0 ≤ x7_1
        ·rw [if_pos c10] at H
         have c10b0 : decide (0 ≤ x7_1) = true := decide_eq_true c10
         clear c10
         by_cases c11 : x7_1 < (x6_1.length : Int)
         ·rw [if_pos c11] at H
          have c11b0 : decide (x7_1 < (x6_1.length : Int)) = true := decide_eq_true c11
          clear c11
          obtain ⟨y104, hy104⟩ : ∃ y_ : List Int, y_ = (x6_1.set (x7_1 : Int).toNat 1) := ⟨_, rfl⟩
          replace H : (accountingref08_Even.l0 k1 a0 a1 y104 (wrap64 (x7_1 + 1))) = some (r1, r2) := by first | (rw [hy104]; with_reducible exact H) | (have H2_ := (Option.bind_some _ _).symm.trans H; rw [hy104]; with_reducible exact H2_) | (have H2_ := (Option.bind_some _ _).symm.trans H; with_reducible exact H2_) | with_reducible exact H | (rw [hy104]; exact H) | exact H
          have Ny104 := Aside0.mk hy104
          clear hy104
          have H' := Aside0.mk H
          clear H
          have p12 : 0 ≤ (x7_1 : Int) := of_decide_eq_true (by first | (with_reducible assumption) | assumption)
          have q12 : (x7_1 : Int) < ((x6_1.length : Int) : Int) := of_decide_eq_true (by first | (with_reducible assumption) | assumption)
          obtain ⟨go12, co12, eo12, gb12, gl12, cl12, HG12⟩ := Kd.R_form HO_6.out (by omega)
          (first | cases eo12 | (injection eo12 with ea_ en_ ec_; (first | subst ea_ | (injection ea_ with ea_; subst ea_)); subst ec_; clear en_))
          have GB12 := Aside0.mk gb12
          have GG12 := Aside0.mk HG12
          clear gb12 gl12 HG12
          obtain ⟨hx12_0, hf12_0⟩ := Kd.R_celln 0 HO_6.out (x7_1 : Int) p12 q12
          replace p12 := eq_true p12
          replace q12 := eq_true q12
          have HP13 := Kd.R_putg HO_6.out (x7_1 : Int) 1
          go_wp2_with (first | ((with_reducible refine gate_store (t := 3) (p := 21) rfl ?_); refine store_event (t := 3) (p := 21) (v := ?vo_w14) (w1 := (wr.setCell ⟨go12, (x7_1 : Int).toNat, none⟩ (.int .i64 1))) ?hg ?ho ?hn ?hr ?_; (case ho => rfl); (case hg => rfl); (case hn => rfl); (case hr => first | (go_simp; done) | (go_simp; rfl)); intro w14 hw; have hg : wr.grownBy w14 (some go12) := (by rw [hw]; exact HP13.2); have hp_ : Kd.R (Kd.int .i64) 3 w14 w.heap.size (fun _ => True) (.slice (some ⟨go12, 0, none⟩) x6_1.length co12) y104 := (by rw [hw, Ny104.out]; exact HP13.1); clear HP13; have n0_ := Aside0.mk (hp_); have n1_ := Aside0.mk ((by rw [hw]; exact below_set (HB.out) GB12.out : Below w.heap.size w w14)); clear HO_6; clear HB; have HO_6 := n0_; have HB := n1_; clear n0_ n1_; clear hg hw hp_))
          go_roundg k1
          case measure => have := HK1.out; omega
          case rel => exact ⟨(y104), (wrap64 (x7_1 + 1)), (by first | rfl | (simp; done) | (simp [*]; done)), H', ⟨by have := HK1.out; omega⟩, ⟨by (with_reducible repeat (first | apply Kd.R_alloc | apply Kd.R_drewN | apply Kd.R_drew)); exact HO_6.out⟩, ⟨by repeat (first | (with_reducible first | exact HB.out | apply below_alloc | apply pw_below_drewN | apply below_drew1) | exact HB.out)⟩⟩
         ·rw [if_neg c11] at H
          exact absurd H (by simp)
        ·rw [if_neg c10] at H
         exact absurd H (by simp)
       ·rw [if_neg c9] at H
        have c9b0 : decide (x7_1 < a1) = false := decide_eq_false c9
        clear c9
        replace H := Option.bind_eq_some_iff.mp H
        obtain ⟨⟨t105, t106⟩, A150, H⟩ := H
        replace H : (some (t105, t106)) = some (r1, r2) := H
        have A15 := Aside0.mk A150
        clear A150
        simp only [Option.some.injEq, Prod.mk.injEq] at H
        obtain ⟨rfl, rfl⟩ := H
        obtain ⟨Ao16, co16, eo16⟩ := Kd.R_slice HO_6.out
        subst eo16
        go_wp2_with (first | ((with_reducible refine gate_callee (f := 14) rfl ?_); refine goesL_ (some 24) rfl rfl Try.func14 (by kernel_rfl) rfl #[.int .i64 a0, .slice Ao16 x6_1.length co16] rfl (by (try simp only [List.map_toArray, List.map_cons, List.map_nil]); first | done | rfl | (simp only [List.length_drop, List.length_take]; rfl)) ?_; (with_reducible refine (accountingref08_Shares.calls k1 a0 _ _ x6_1 t105 t106 _ ?side1 ?side2 A15.out).mono ?_); (case side1 => repeat (first | exact (Kd.R_reads' HO_6.out).2.2 | (with_reducible refine Kd.C_alloc ?_ _) | (with_reducible refine Kd.C_drewN ?_ _) | (with_reducible refine Kd.C_drew ?_))); (case side2 => exact (Kd.R_reads' HO_6.out).2.1); rintro e w17 ⟨v107, rfl, ho0, hb⟩; refine ⟨_, rfl, ?_⟩; have n0_ := Aside0.mk (Kd.R_elder' (by (with_reducible repeat (first | apply Kd.R_alloc | apply Kd.R_drewN | apply Kd.R_drew)); exact HO_6.out) (Kd.R_base ho0) hb); have n1_ := Aside0.mk (Kd.R_lower (Kd.R_new' ho0 (Kd.R_lt (by (with_reducible repeat (first | apply Kd.R_alloc | apply Kd.R_drewN | apply Kd.R_drew)); exact HO_6.out))) (below_size (by repeat (first | (with_reducible first | exact HB.out | apply below_alloc | apply pw_below_drewN | apply below_drew1) | exact HB.out)))); have n2_ := Aside0.mk (below_step (by repeat (first | (with_reducible first | exact HB.out | apply below_alloc | apply pw_below_drewN | apply below_drew1) | exact HB.out)) hb); clear HO_6; clear HB; have HO_6 := n0_; have HO108 := n1_; have HB := n2_; clear n0_ n1_ n2_; (try clear hb); (try clear hb2); (try clear hk); (try clear hi); (try clear ho0)))
        go_ret2
        exact ⟨_, by first | rfl | (simp [errW_none, errW_some] <;> rfl) | (simp [*, errW_none, errW_some] <;> rfl), by (with_reducible repeat (first | apply Kd.R_alloc | apply Kd.R_drewN | apply Kd.R_drew)); exact Kd.R_mono HO108.out (fun _ hk => trivial), by repeat (first | (with_reducible first | exact HB.out | apply below_alloc | apply pw_below_drewN | apply below_drew1) | exact HB.out)⟩
    ·rw [if_neg c6] at H
     exact absurd H (by simp)
   ·rw [if_neg c5] at H
    exact absurd H (by simp)

end Go.Proofs.Ytikglhfeookhaaa.M
end
section
/- The specification of split.Even comes to the same list. -/
namespace Go.Proofs.Ytikglhfeookhaaa.M
open Go.RowKit Go.Proofs.YtikglhfeookhaaaW.PrintWords Dv
set_option linter.unusedVariables false
theorem accountingref08_Even.go (a n : Int) (h0 : 1 ≤ n) (h1 : n ≤ 200) : ∀ (d i : Nat), (i : Int) + d = n → Ev (fun k => accountingref08_Even.l0 k a n (List.replicate i 1 ++ List.replicate d 0) i) (if shErr a (List.replicate n.toNat 1) = 0 then shr a (List.replicate n.toNat 1) else [], shErr a (List.replicate n.toNat 1))
  | 0, i, h => by
    refine Ev.succ ?_
    have g : ¬ (i : Int) < n := by omega
    obtain rfl : n = (i : Int) := by omega
    simp only [accountingref08_Even.l0, if_neg g, List.replicate_zero, List.append_nil, Int.toNat_natCast]
    refine Ev.bind (accountingref08_Shares.eq (by simp; omega) (fun x hx => ?_)) (Ev.const _)
    have := (List.mem_replicate.1 hx).2
    omega
  | d + 1, i, h => by
    refine Ev.succ ?_
    have g : (i : Int) < n := by omega
    have g1 : (0 : Int) ≤ i := by omega
    have g2 : (i : Int) < ((List.replicate i (1 : Int) ++ List.replicate (d + 1) 0).length : Int) := by simp; omega
    have e : wrap64 ((i : Int) + 1) = ((i + 1 : Nat) : Int) := by rw [w64 (by omega) (by omega)]; omega
    simp only [accountingref08_Even.l0, if_pos g, if_pos g1, if_pos g2, e]
    have s1 : (List.replicate i (1 : Int) ++ List.replicate (d + 1) 0).set (i : Int).toNat 1 = List.replicate (i + 1) 1 ++ List.replicate d 0 := by
      rw [List.replicate_succ (n := d), set_at _ _ _ _ _ (by simp)]
      rw [show List.replicate (i + 1) (1 : Int) = List.replicate i 1 ++ [1] by rw [List.replicate_succ']]
      simp
    rw [s1]
    exact accountingref08_Even.go a n h0 h1 d (i + 1) (by omega)
theorem accountingref08_Even.eq (a n : Int) : Ev (fun k => accountingref08_Even.f k a n) (evn a n) := by
  unfold evn
  by_cases c1 : n < 1
  · simp only [accountingref08_Even.f, if_pos c1]; exact Ev.const _
  · by_cases c2 : n > 200
    · simp only [accountingref08_Even.f, if_neg c1, if_pos c2]; exact Ev.const _
    · have g1 : 0 ≤ n := by omega
      have g2 : n.toNat ≤ 35184372088832 := by omega
      simp only [accountingref08_Even.f, if_neg c1, if_neg c2, if_pos g1, if_pos g2]
      have := accountingref08_Even.go a n (by omega) (by omega) n.toNat 0 (by omega)
      simpa using this
end Go.Proofs.Ytikglhfeookhaaa.M
end
