/- Multiplying all weights by the same positive number does not change the shares: under no condition. Part 1 of 1 of what is the claim's own. -/
import Derived.Test.YtikglhfeookhaaaQB1
import Derived.Test.YtikglhfeookhaaaQB7
import Derived.Test.YtikglhfeookhaaaQB6
import Derived.SizedLaws
import Derived.ChangeSlices
import Derived.Test.YtikglhfeookhaaaRows
import Derived.WalkKit
import Derived.ProofKit
import Derived.OpenShut
import Derived.ShutString
import Derived.ChangeOld
import Derived.Below
section
-- Written by mprint.py (a program of this session) over the kit's print.
namespace Go.Proofs.Ytikglhfeookhaaa.M
open Go.RowKit Go.Proofs.YtikglhfeookhaaaW.PrintWords Go.Proofs.YtikglhfeookhaaaW.PrintLast Go.Proofs.YtikglhfeookhaaaW.PrintMore
attribute [local go_sem] max2_int min2_int max_two min_two max_three min_three max_four min_four   -- for this text's walks alone
set_option linter.unusedVariables false
set_option linter.unusedSimpArgs false

/-! ### accountinglaw08_SplitScales: function 8 -/
mutual
def accountinglaw08_SplitScales.j0 : Nat → Int → List Int → Int → Bool → Option (Bool)
  | 0, _, _, _, _ => none
  | k + 1, x0, x1, x2, x22 => if x22 = true then ((accountinglaw08_lives.f k).bind fun t102 => (some t102)) else (accountinglaw08_SplitScales.l0 k x0 x1 x2 (([] : List Int)) 0)
def accountinglaw08_SplitScales.l0 : Nat → Int → List Int → Int → List Int → Int → Option (Bool)
  | 0, _, _, _, _, _ => none
  | k + 1, x0, x1, x2, x7, x8 => if x8 < (x1.length : Int) then (if 0 ≤ x8 then (if (rd x1 x8) > 1000000000 then ((accountinglaw08_lives.f k).bind fun t107 => (some t107)) else (if (rd x1 x8) < 0 then ((accountinglaw08_lives.f k).bind fun t109 => (some t109)) else (if x7.length < 17592186044416 then (accountinglaw08_SplitScales.l0 k x0 x1 x2 (x7 ++ [wrap64 ((rd x1 x8) * x2)]) (wrap64 (x8 + 1))) else (none)))) else (none)) else ((split_Shares.f k x0 x1).bind fun bt114 => ((split_Shares.f k x0 x7).bind fun bt118 => (if bt114.2 = bt118.2 then ((accountingref08_Same.f k bt114.1 bt118.1).bind fun t122 => (if t122 = true then ((accountinglaw08_lives.f k).bind fun t123 => (some t123)) else (some false))) else (some false))))
end
def accountinglaw08_SplitScales.f (k : Nat) (a0 : Int) (l1 : List Int) (a2 : Int) : Option (Bool) := (accountinglaw08_many.f l1).bind fun t101 => (if t101 = true then (accountinglaw08_SplitScales.j0 k a0 l1 a2 true) else (if a2 < 1 then (accountinglaw08_SplitScales.j0 k a0 l1 a2 true) else (accountinglaw08_SplitScales.j0 k a0 l1 a2 (decide (a2 > 1000)))))
theorem accountinglaw08_SplitScales.mono_l : ∀ k, (∀ y0 y1 y2 y3, LeO (accountinglaw08_SplitScales.j0 k y0 y1 y2 y3) (accountinglaw08_SplitScales.j0 (k + 1) y0 y1 y2 y3)) ∧ (∀ y0 y1 y2 y3 y4, LeO (accountinglaw08_SplitScales.l0 k y0 y1 y2 y3 y4) (accountinglaw08_SplitScales.l0 (k + 1) y0 y1 y2 y3 y4))
  | 0 => ⟨fun _ _ _ _ r h => by simp [accountinglaw08_SplitScales.j0] at h, fun _ _ _ _ _ r h => by simp [accountinglaw08_SplitScales.l0] at h⟩
  | k + 1 => by
    obtain ⟨ih0, ih1⟩ := accountinglaw08_SplitScales.mono_l k
    refine ⟨?_, ?_⟩
    · intro y0 y1 y2 y3
      unfold accountinglaw08_SplitScales.j0
      repeat' first
      | (with_reducible exact ih0 _ _ _ _)
      | (with_reducible exact ih1 _ _ _ _ _)
      | (with_reducible exact accountinglaw08_lives.mono _)
      | (with_reducible exact accountingref08_Same.mono _ _ _)
      | (with_reducible exact split_Shares.mono _ _ _)
      | (with_reducible exact LeO.refl _)
      | (with_reducible exact LeO.none _)
      | (with_reducible refine LeO.ite ?_ ?_)
      | (with_reducible refine LeO.bind ?_ (fun _ => ?_))
      | exact ih0 _ _ _ _
      | exact ih1 _ _ _ _ _
      | exact accountinglaw08_lives.mono _
      | exact accountingref08_Same.mono _ _ _
      | exact split_Shares.mono _ _ _
      | exact LeO.none _
      | refine LeO.ite ?_ ?_
      | refine LeO.bind ?_ (fun _ => ?_)
    · intro y0 y1 y2 y3 y4
      unfold accountinglaw08_SplitScales.l0
      repeat' first
      | (with_reducible exact ih0 _ _ _ _)
      | (with_reducible exact ih1 _ _ _ _ _)
      | (with_reducible exact accountinglaw08_lives.mono _)
      | (with_reducible exact accountingref08_Same.mono _ _ _)
      | (with_reducible exact split_Shares.mono _ _ _)
      | (with_reducible exact LeO.refl _)
      | (with_reducible exact LeO.none _)
      | (with_reducible refine LeO.ite ?_ ?_)
      | (with_reducible refine LeO.bind ?_ (fun _ => ?_))
      | exact ih0 _ _ _ _
      | exact ih1 _ _ _ _ _
      | exact accountinglaw08_lives.mono _
      | exact accountingref08_Same.mono _ _ _
      | exact split_Shares.mono _ _ _
      | exact LeO.none _
      | refine LeO.ite ?_ ?_
      | refine LeO.bind ?_ (fun _ => ?_)
theorem accountinglaw08_SplitScales.mono : ∀ a0 a1 a2 k, LeO (accountinglaw08_SplitScales.f k a0 a1 a2) (accountinglaw08_SplitScales.f (k + 1) a0 a1 a2) := by
 intro a0 a1 a2 k
 obtain ⟨ih0, ih1⟩ := accountinglaw08_SplitScales.mono_l k
 unfold accountinglaw08_SplitScales.f
 repeat' first
   | (with_reducible exact ih0 _ _ _ _)
   | (with_reducible exact ih1 _ _ _ _ _)
   | (with_reducible exact accountinglaw08_lives.mono _)
   | (with_reducible exact accountingref08_Same.mono _ _ _)
   | (with_reducible exact split_Shares.mono _ _ _)
   | (with_reducible exact LeO.refl _)
   | (with_reducible exact LeO.none _)
   | (with_reducible refine LeO.ite ?_ ?_)
   | (with_reducible refine LeO.bind ?_ (fun _ => ?_))
   | exact ih0 _ _ _ _
   | exact ih1 _ _ _ _ _
   | exact accountinglaw08_lives.mono _
   | exact accountingref08_Same.mono _ _ _
   | exact split_Shares.mono _ _ _
   | exact LeO.none _
   | refine LeO.ite ?_ ?_
   | refine LeO.bind ?_ (fun _ => ?_)
set_option maxHeartbeats 8000000 in
set_option maxRecDepth 100000 in
theorem accountinglaw08_SplitScales.calls (k : Nat) (a0 : Int) (A1 : Option Addr) (c1 : Nat) (l1 : List Int) (a2 : Int) (r : Bool) (w : World) (hr1 : Kd.C (Kd.int .i64) w A1 l1.length l1) (hc1 : l1.length ≤ c1) (h : accountinglaw08_SplitScales.f k a0 l1 a2 = some r) :
    Calls Try.prog 8 #[.int .i64 a0, .slice A1 l1.length c1, .int .i64 a2] w fun e w' => e = .returned (.bool r) ∧ Below w.heap.size w w' := by
 have hu3 := Try.underlying3
 have HR1 := Aside0.mk hr1
 have HC1 := Aside0.mk hc1
 clear hr1 hc1
 have HB := Aside0.mk (Below.refl w.heap.size w)
 have H : ((accountinglaw08_many.f l1).bind fun t101 => (if t101 = true then (accountinglaw08_SplitScales.j0 k a0 l1 a2 true) else (if a2 < 1 then (accountinglaw08_SplitScales.j0 k a0 l1 a2 true) else (accountinglaw08_SplitScales.j0 k a0 l1 a2 (decide (a2 > 1000)))))) = some r := h
 clear h
 have HC4 := Aside0.mk H
 clear H
 go_enter Try.func8, Try.ntmps8
 go_upto_region 1 with (fail)
 go_cut [22] (fun v22 wc => ∃ (kq : Nat) (x22_3 : Bool), v22 = .bool x22_3 ∧ Aside0 (accountinglaw08_SplitScales.j0 kq a0 l1 a2 x22_3 = some r) ∧ Aside0 (kq ≤ k) ∧ Aside0 (Below w.heap.size w wc))
 case first =>
  have H := HC4.out
  clear HC4
  replace H := Option.bind_eq_some_iff.mp H
  obtain ⟨t101, A50, H⟩ := H
  replace H : (if t101 = true then (accountinglaw08_SplitScales.j0 k a0 l1 a2 true) else (if a2 < 1 then (accountinglaw08_SplitScales.j0 k a0 l1 a2 true) else (accountinglaw08_SplitScales.j0 k a0 l1 a2 (decide (a2 > 1000))))) = some r := H
  have A5 := Aside0.mk A50
  clear A50
  by_cases c6 : t101 = true
  ·subst c6
   have H1 : (accountinglaw08_SplitScales.j0 k a0 l1 a2 true) = some r := by rw [if_pos rfl] at H; exact H
   clear H
   have H := H1
   clear H1
   have H' := Aside0.mk H
   clear H
   go_wp2_with (first | ((with_reducible refine gate_callee (f := 11) rfl ?_); refine goesL_ (some 14) rfl rfl Try.func11 (by kernel_rfl) rfl #[.slice A1 l1.length c1] rfl (by (try simp only [List.map_toArray, List.map_cons, List.map_nil]); first | done | rfl | (simp only [List.length_drop, List.length_take]; rfl)) ?_; (with_reducible refine (accountinglaw08_many.calls _ _ l1 true _ ?side1 ?side2 A5.out).mono ?_); (case side1 => repeat (first | exact (Kd.C_below HR1.out HB.out) | (with_reducible refine Kd.C_alloc ?_ _) | (with_reducible refine Kd.C_drewN ?_ _) | (with_reducible refine Kd.C_drew ?_))); (case side2 => exact HC1.out); rintro e w' ⟨rfl, ⟨nd, rfl⟩⟩; refine ⟨_, rfl, ?_⟩))
   go_meet
   case rel => exact ⟨_, (true), (by first | rfl | (simp; done) | (simp [*]; done)), H', ⟨by first | omega | exact Nat.le_refl _⟩, ⟨by repeat (first | (with_reducible first | exact HB.out | apply below_alloc | apply pw_below_drewN | apply below_drew1) | exact HB.out)⟩⟩
  ·replace c6 := Bool.eq_false_iff.mpr c6
   subst c6
   have H1 : (if a2 < 1 then (accountinglaw08_SplitScales.j0 k a0 l1 a2 true) else (accountinglaw08_SplitScales.j0 k a0 l1 a2 (decide (a2 > 1000)))) = some r := by rw [if_neg (show ¬ (false = true) by decide)] at H; exact H
   clear H
   have H := H1
   clear H1
   by_cases c7 : a2 < 1
   ·rw [if_pos c7] at H
    have c7b0 : decide (a2 < 1) = true := decide_eq_true c7
    clear c7
    (first | rw [c7b0] | (simp only [i64_w, i32_w]; rw [c7b0]) | skip)
    have H' := Aside0.mk H
    clear H
    go_wp2_with (first | ((with_reducible refine gate_callee (f := 11) rfl ?_); refine goesL_ (some 14) rfl rfl Try.func11 (by kernel_rfl) rfl #[.slice A1 l1.length c1] rfl (by (try simp only [List.map_toArray, List.map_cons, List.map_nil]); first | done | rfl | (simp only [List.length_drop, List.length_take]; rfl)) ?_; (with_reducible refine (accountinglaw08_many.calls _ _ l1 false _ ?side1 ?side2 A5.out).mono ?_); (case side1 => repeat (first | exact (Kd.C_below HR1.out HB.out) | (with_reducible refine Kd.C_alloc ?_ _) | (with_reducible refine Kd.C_drewN ?_ _) | (with_reducible refine Kd.C_drew ?_))); (case side2 => exact HC1.out); rintro e w' ⟨rfl, ⟨nd, rfl⟩⟩; refine ⟨_, rfl, ?_⟩))
    go_meet
    case rel => exact ⟨_, (true), (by first | rfl | (simp; done) | (simp [*]; done)), H', ⟨by first | omega | exact Nat.le_refl _⟩, ⟨by repeat (first | (with_reducible first | exact HB.out | apply below_alloc | apply pw_below_drewN | apply below_drew1) | exact HB.out)⟩⟩
   ·rw [if_neg c7] at H
    have c7b0 : decide (a2 < 1) = false := decide_eq_false c7
    clear c7
    (first | rw [c7b0] | (simp only [i64_w, i32_w]; rw [c7b0]) | skip)
    have H' := Aside0.mk H
    clear H
    go_wp2_with (first | ((with_reducible refine gate_callee (f := 11) rfl ?_); refine goesL_ (some 14) rfl rfl Try.func11 (by kernel_rfl) rfl #[.slice A1 l1.length c1] rfl (by (try simp only [List.map_toArray, List.map_cons, List.map_nil]); first | done | rfl | (simp only [List.length_drop, List.length_take]; rfl)) ?_; (with_reducible refine (accountinglaw08_many.calls _ _ l1 false _ ?side1 ?side2 A5.out).mono ?_); (case side1 => repeat (first | exact (Kd.C_below HR1.out HB.out) | (with_reducible refine Kd.C_alloc ?_ _) | (with_reducible refine Kd.C_drewN ?_ _) | (with_reducible refine Kd.C_drew ?_))); (case side2 => exact HC1.out); rintro e w' ⟨rfl, ⟨nd, rfl⟩⟩; refine ⟨_, rfl, ?_⟩))
    go_meet
    case rel => exact ⟨_, (decide (a2 > 1000)), (by first | rfl | (simp; done) | (simp [*]; done)), H', ⟨by first | omega | exact Nat.le_refl _⟩, ⟨by repeat (first | (with_reducible first | exact HB.out | apply below_alloc | apply pw_below_drewN | apply below_drew1) | exact HB.out)⟩⟩
 case rest =>
  clear HC4
  try clear c1
  try clear p2
  try clear c6
  try clear c7
  try clear c7b0
  obtain ⟨kq, x22_3, rfl, HA, HJ3, HB⟩ := hcut
  cases kq with
  | zero => exact absurd HA.out (by simp [accountinglaw08_SplitScales.j0])
  | succ kj3 =>
   have H := HA.out
   clear HA
   simp only [accountinglaw08_SplitScales.j0] at H
   by_cases c8 : x22_3 = true
   ·subst c8
    have H1 : ((accountinglaw08_lives.f kj3).bind fun t102 => (some t102)) = some r := by rw [if_pos rfl] at H; exact H
    clear H
    have H := H1
    clear H1
    replace H := Option.bind_eq_some_iff.mp H
    obtain ⟨t102, A90, H⟩ := H
    replace H : (some t102) = some r := H
    have A9 := Aside0.mk A90
    clear A90
    obtain rfl := Option.some.inj H
    go_wp2_with (first | ((with_reducible refine gate_callee (f := 13) rfl ?_); refine goesL_ (some 23) rfl rfl Try.func13 (by kernel_rfl) rfl #[] rfl (by (try simp only [List.map_toArray, List.map_cons, List.map_nil]); first | done | rfl | (simp only [List.length_drop, List.length_take]; rfl)) ?_; (with_reducible refine (accountinglaw08_lives.calls kj3  t102 _ A9.out).mono ?_); rintro e w10 ⟨rfl, hb⟩; refine ⟨_, rfl, ?_⟩; have n0_ := Aside0.mk (below_step (by repeat (first | (with_reducible first | exact HB.out | apply below_alloc | apply pw_below_drewN | apply below_drew1) | exact HB.out)) hb); clear HB; have HB := n0_; clear n0_; (try clear hb); (try clear hb2); (try clear hk); (try clear hi)))
    go_ret
    exact ⟨by first | rfl | (simp [errW_none, errW_some] <;> rfl) | (simp [*, errW_none, errW_some] <;> rfl), by repeat (first | (with_reducible first | exact HB.out | apply below_alloc | apply pw_below_drewN | apply below_drew1) | exact HB.out)⟩
   ·replace c8 := Bool.eq_false_iff.mpr c8
    subst c8
    have H1 : (accountinglaw08_SplitScales.l0 kj3 a0 l1 a2 (([] : List Int)) 0) = some r := by rw [if_neg (show ¬ (false = true) by decide)] at H; exact H
    clear H
    have H := H1
    clear H1
    obtain ⟨y103, hy103⟩ : ∃ y_ : List Int, y_ = (([] : List Int)) := ⟨_, rfl⟩
    replace H : (accountinglaw08_SplitScales.l0 kj3 a0 l1 a2 y103 0) = some r := by first | (rw [hy103]; with_reducible exact H) | (have H2_ := (Option.bind_some _ _).symm.trans H; rw [hy103]; with_reducible exact H2_) | (have H2_ := (Option.bind_some _ _).symm.trans H; with_reducible exact H2_) | with_reducible exact H | (rw [hy103]; exact H) | exact H
    have Ny103 := Aside0.mk hy103
    clear hy103
    have H' := Aside0.mk H
    clear H
    go_wp2_with (first | ((with_reducible refine gate_dst (N := 24) rfl ?_); refine Kd.R_lit (Kd.int .i64) _ 3 ?hg (N := 24) ?hd (xs := ([] : List Int)) (inner := []) (ok := fun _ => True) (okp := fun _ => True) ?hr ?hp (fun _ hk => hk) trivial (Below.refl _ _) (Nat.le_refl _) (by simp) ?_; (case hd => rfl); (case hg => rfl); (case hr => first | (go_simp; done) | (go_simp; rfl)); (case hp => exact (Reps.none _ _)); intro v104 w11 ho12 hb hg_ hnew_; clear hg_ hnew_; (first | rw [← Ny103.out] at ho12 | (simp only [Int.reduceToNat] at ho12; rw [← Ny103.out] at ho12)); have n0_ := Aside0.mk (Kd.R_lower ho12 (below_size (by repeat (first | (with_reducible first | exact HB.out | apply below_alloc | apply pw_below_drewN | apply below_drew1) | exact HB.out)))); have n1_ := Aside0.mk (below_step (by repeat (first | (with_reducible first | exact HB.out | apply below_alloc | apply pw_below_drewN | apply below_drew1) | exact HB.out)) hb); clear HB; have HO105 := n0_; have HB := n1_; clear n0_ n1_; clear hb ho12))
    go_loopg [7, 8] kj3 (fun kq v7 v8 w' => ∃ (x7_2 : List Int) (x8_2 : Int), v8 = .int .i64 x8_2 ∧ Aside0 (accountinglaw08_SplitScales.l0 kq a0 l1 a2 x7_2 x8_2 = some r) ∧ Aside0 (kq ≤ kj3) ∧ Aside0 (Kd.R (Kd.int .i64) 3 w' w.heap.size (fun _ => True) v7 x7_2) ∧ Aside0 (Below w.heap.size w w'))
    case atStart => exact ⟨(y103), (0), (by first | rfl | (simp; done) | (simp [*]; done)), H', ⟨Nat.le_refl _⟩, ⟨by (with_reducible repeat (first | apply Kd.R_alloc | apply Kd.R_drewN | apply Kd.R_drew)); exact HO105.out⟩, ⟨by repeat (first | (with_reducible first | exact HB.out | apply below_alloc | apply pw_below_drewN | apply below_drew1) | exact HB.out)⟩⟩
    case round =>
     clear H'
     try clear c1
     try clear p2
     try clear c6
     try clear c7
     try clear c7b0
     try clear c8
     try clear c11
     try clear p2
     obtain ⟨x7_2, x8_2, rfl, HA, HK2, HO_7, HB⟩ := hrel
     cases gk with
     | zero => exact absurd HA.out (by simp [accountinglaw08_SplitScales.l0])
     | succ k2 =>
      have H := HA.out
      clear HA
      simp only [accountinglaw08_SplitScales.l0] at H
      by_cases c13 : x8_2 < (l1.length : Int)
      ·rw [if_pos c13] at H
       have c13b0 : decide (x8_2 < (l1.length : Int)) = true := decide_eq_true c13
       clear c13
       by_cases c14 : 0 ≤ x8_2
       ·rw [if_pos c14] at H
        have c14b0 : decide (0 ≤ x8_2) = true := decide_eq_true c14
        clear c14
        by_cases c15 : (rd l1 x8_2) > 1000000000
        ·rw [if_pos c15] at H
         have c15b0 : decide (1000000000 < (rd l1 x8_2)) = true := decide_eq_true c15
         clear c15
         replace H := Option.bind_eq_some_iff.mp H
         obtain ⟨t107, A160, H⟩ := H
         replace H : (some t107) = some r := H
         have A16 := Aside0.mk A160
         clear A160
         obtain rfl := Option.some.inj H
         have p106 : 0 ≤ (x8_2 : Int) := of_decide_eq_true (by first | (with_reducible assumption) | assumption)
         have q106 : x8_2 < (l1.length : Int) := of_decide_eq_true (by first | (with_reducible assumption) | assumption)
         obtain ⟨ad106, e106, hx106_0⟩ := Kd.at_int HR1.out x8_2 p106 q106
         cases e106
         replace hx106_0 := (HB.out.cell (World.block_lt_of_cell? w _ hx106_0)).trans hx106_0
         replace p106 := eq_true p106
         replace q106 := eq_true q106
         go_wp2_with (first | ((with_reducible refine gate_callee (f := 13) rfl ?_); refine goesL_ (some 43) rfl rfl Try.func13 (by kernel_rfl) rfl #[] rfl (by (try simp only [List.map_toArray, List.map_cons, List.map_nil]); first | done | rfl | (simp only [List.length_drop, List.length_take]; rfl)) ?_; (with_reducible refine (accountinglaw08_lives.calls k2  t107 _ A16.out).mono ?_); rintro e w17 ⟨rfl, hb⟩; refine ⟨_, rfl, ?_⟩; have n0_ := Aside0.mk (Kd.R_below (by (with_reducible repeat (first | apply Kd.R_alloc | apply Kd.R_drewN | apply Kd.R_drew)); exact HO_7.out) hb); have n1_ := Aside0.mk (below_step (by repeat (first | (with_reducible first | exact HB.out | apply below_alloc | apply pw_below_drewN | apply below_drew1) | exact HB.out)) hb); clear HO_7; clear HB; have HO_7 := n0_; have HB := n1_; clear n0_ n1_; (try clear hb); (try clear hb2); (try clear hk); (try clear hi)))
         go_ret
         exact ⟨by first | rfl | (simp [errW_none, errW_some] <;> rfl) | (simp [*, errW_none, errW_some] <;> rfl), by repeat (first | (with_reducible first | exact HB.out | apply below_alloc | apply pw_below_drewN | apply below_drew1) | exact HB.out)⟩
        ·rw [if_neg c15] at H
         have c15b0 : decide (1000000000 < (rd l1 x8_2)) = false := decide_eq_false c15
         clear c15
         by_cases c18 : (rd l1 x8_2) < 0
         ·rw [if_pos c18] at H
          have c18b0 : decide ((rd l1 x8_2) < 0) = true := decide_eq_true c18
          clear c18
          replace H := Option.bind_eq_some_iff.mp H
          obtain ⟨t109, A190, H⟩ := H
          replace H : (some t109) = some r := H
          have A19 := Aside0.mk A190
          clear A190
          obtain rfl := Option.some.inj H
          have p106 : 0 ≤ (x8_2 : Int) := of_decide_eq_true (by first | (with_reducible assumption) | assumption)
          have q106 : x8_2 < (l1.length : Int) := of_decide_eq_true (by first | (with_reducible assumption) | assumption)
          obtain ⟨ad106, e106, hx106_0⟩ := Kd.at_int HR1.out x8_2 p106 q106
          cases e106
          replace hx106_0 := (HB.out.cell (World.block_lt_of_cell? w _ hx106_0)).trans hx106_0
          replace p106 := eq_true p106
          replace q106 := eq_true q106
          have p108 : 0 ≤ (x8_2 : Int) := of_decide_eq_true (by first | (with_reducible assumption) | assumption)
          have q108 : x8_2 < (l1.length : Int) := of_decide_eq_true (by first | (with_reducible assumption) | assumption)
          obtain ⟨ad108, e108, hx108_0⟩ := Kd.at_int HR1.out x8_2 p108 q108
          obtain rfl : ad106 = ad108 := (by injection e108)
          replace hx108_0 := (HB.out.cell (World.block_lt_of_cell? w _ hx108_0)).trans hx108_0
          replace p108 := eq_true p108
          replace q108 := eq_true q108
          go_wp2_with (first | ((with_reducible refine gate_callee (f := 13) rfl ?_); refine goesL_ (some 43) rfl rfl Try.func13 (by kernel_rfl) rfl #[] rfl (by (try simp only [List.map_toArray, List.map_cons, List.map_nil]); first | done | rfl | (simp only [List.length_drop, List.length_take]; rfl)) ?_; (with_reducible refine (accountinglaw08_lives.calls k2  t109 _ A19.out).mono ?_); rintro e w20 ⟨rfl, hb⟩; refine ⟨_, rfl, ?_⟩; have n0_ := Aside0.mk (Kd.R_below (by (with_reducible repeat (first | apply Kd.R_alloc | apply Kd.R_drewN | apply Kd.R_drew)); exact HO_7.out) hb); have n1_ := Aside0.mk (below_step (by repeat (first | (with_reducible first | exact HB.out | apply below_alloc | apply pw_below_drewN | apply below_drew1) | exact HB.out)) hb); clear HO_7; clear HB; have HO_7 := n0_; have HB := n1_; clear n0_ n1_; (try clear hb); (try clear hb2); (try clear hk); (try clear hi)))
          go_ret
          exact ⟨by first | rfl | (simp [errW_none, errW_some] <;> rfl) | (simp [*, errW_none, errW_some] <;> rfl), by repeat (first | (with_reducible first | exact HB.out | apply below_alloc | apply pw_below_drewN | apply below_drew1) | exact HB.out)⟩
         ·rw [if_neg c18] at H
          have c18b0 : decide ((rd l1 x8_2) < 0) = false := decide_eq_false c18
          clear c18
          by_cases c21 : x7_2.length < 17592186044416
          ·rw [if_pos c21] at H
           have LMc21 := Aside0.mk c21
           clear c21
           obtain ⟨y111, hy111⟩ : ∃ y_ : List Int, y_ = (x7_2 ++ [wrap64 ((rd l1 x8_2) * a2)]) := ⟨_, rfl⟩
           replace H : (accountinglaw08_SplitScales.l0 k2 a0 l1 a2 y111 (wrap64 (x8_2 + 1))) = some r := by first | (rw [hy111]; with_reducible exact H) | (have H2_ := (Option.bind_some _ _).symm.trans H; rw [hy111]; with_reducible exact H2_) | (have H2_ := (Option.bind_some _ _).symm.trans H; with_reducible exact H2_) | with_reducible exact H | (rw [hy111]; exact H) | exact H
           have Ny111 := Aside0.mk hy111
           clear hy111
           have H' := Aside0.mk H
           clear H
           have p106 : 0 ≤ (x8_2 : Int) := of_decide_eq_true (by first | (with_reducible assumption) | assumption)
           have q106 : x8_2 < (l1.length : Int) := of_decide_eq_true (by first | (with_reducible assumption) | assumption)
           obtain ⟨ad106, e106, hx106_0⟩ := Kd.at_int HR1.out x8_2 p106 q106
           cases e106
           replace hx106_0 := (HB.out.cell (World.block_lt_of_cell? w _ hx106_0)).trans hx106_0
           replace p106 := eq_true p106
           replace q106 := eq_true q106
           have p108 : 0 ≤ (x8_2 : Int) := of_decide_eq_true (by first | (with_reducible assumption) | assumption)
           have q108 : x8_2 < (l1.length : Int) := of_decide_eq_true (by first | (with_reducible assumption) | assumption)
           obtain ⟨ad108, e108, hx108_0⟩ := Kd.at_int HR1.out x8_2 p108 q108
           obtain rfl : ad106 = ad108 := (by injection e108)
           replace hx108_0 := (HB.out.cell (World.block_lt_of_cell? w _ hx108_0)).trans hx108_0
           replace p108 := eq_true p108
           replace q108 := eq_true q108
           have p110 : 0 ≤ (x8_2 : Int) := of_decide_eq_true (by first | (with_reducible assumption) | assumption)
           have q110 : x8_2 < (l1.length : Int) := of_decide_eq_true (by first | (with_reducible assumption) | assumption)
           obtain ⟨ad110, e110, hx110_0⟩ := Kd.at_int HR1.out x8_2 p110 q110
           obtain rfl : ad106 = ad110 := (by injection e110)
           replace hx110_0 := (HB.out.cell (World.block_lt_of_cell? w _ hx110_0)).trans hx110_0
           replace p110 := eq_true p110
           replace q110 := eq_true q110
           go_wp2_with (first | ((with_reducible refine gate_builtin (b := .append) (xs := #[.tmp 44, .tmp 51]) rfl ?_); at_builtin; refine Kd.R_append (Kd.int .i64) (w0 := w) w.heap.size rfl (.tmp 44) (.tmp 51) 22 3 (.int .i64 0) 8 rfl Try.underlying22 info3 rfl (by decide) (by omega) u7 x7_2 (wrap64 ((rd l1 x8_2) * a2)) [.int .i64 (wrap64 ((rd l1 x8_2) * a2))] (fun _ => True) (fun _ => False) rfl rfl ?aP (fun _ hk => hk.elim) ?aF ?aO ?aB ?aS ?aL ?_; (case aP => exact rfl); (case aB => exact (by repeat (first | (with_reducible first | exact HB.out | apply below_alloc | apply pw_below_drewN | apply below_drew1) | exact HB.out))); (case aF => exact (fun _ _ => trivial)); (case aO => exact (by (with_reducible repeat (first | apply Kd.R_alloc | apply Kd.R_drewN | apply Kd.R_drew)); exact HO_7.out)); (case aS => exact (below_size (by repeat (first | (with_reducible first | exact HB.out | apply below_alloc | apply pw_below_drewN | apply below_drew1) | exact HB.out)))); (case aL => have := LMc21.out; omega); intro v112 w22 ho hb hg hat; rw [← Ny111.out] at ho; have n0_ := Aside0.mk (hb); have n1_ := Aside0.mk (ho); clear HB; clear HO_7; have HB := n0_; have HO113 := n1_; clear n0_ n1_; clear ho hb hg hat))
           go_roundg k2
           case measure => have := HJ3.out; have := HK2.out; omega
           case rel => exact ⟨(y111), (wrap64 (x8_2 + 1)), (by first | rfl | (simp; done) | (simp [*]; done)), H', ⟨by have := HJ3.out; have := HK2.out; omega⟩, ⟨by (with_reducible repeat (first | apply Kd.R_alloc | apply Kd.R_drewN | apply Kd.R_drew)); exact HO113.out⟩, ⟨by repeat (first | (with_reducible first | exact HB.out | apply below_alloc | apply pw_below_drewN | apply below_drew1) | exact HB.out)⟩⟩
          ·rw [if_neg c21] at H
           exact absurd H (by simp)
       ·rw [if_neg c14] at H
        exact absurd H (by simp)
      ·rw [if_neg c13] at H
       have c13b0 : decide (x8_2 < (l1.length : Int)) = false := decide_eq_false c13
       clear c13
       replace H := Option.bind_eq_some_iff.mp H
       obtain ⟨⟨t114, t115⟩, A230, H⟩ := H
       replace H : ((split_Shares.f k2 a0 x7_2).bind fun bt118 => (if t115 = bt118.2 then ((accountingref08_Same.f k2 t114 bt118.1).bind fun t122 => (if t122 = true then ((accountinglaw08_lives.f k2).bind fun t123 => (some t123)) else (some false))) else (some false))) = some r := H
       have A23 := Aside0.mk A230
       clear A230
       replace H := Option.bind_eq_some_iff.mp H
       obtain ⟨⟨t118, t119⟩, A240, H⟩ := H
       replace H : (if t115 = t119 then ((accountingref08_Same.f k2 t114 t118).bind fun t122 => (if t122 = true then ((accountinglaw08_lives.f k2).bind fun t123 => (some t123)) else (some false))) else (some false)) = some r := H
       have A24 := Aside0.mk A240
       clear A240
       by_cases c25 : t115 = t119
       ·rw [if_pos c25] at H
        have c25b0 : (t115 == t119) = true := beq_iff_eq.mpr c25
        have c25b1 : (t115 != t119) = false := bne_eq_false_iff_eq.mpr c25
        clear c25
        replace H := Option.bind_eq_some_iff.mp H
        obtain ⟨t122, A260, H⟩ := H
        replace H : (if t122 = true then ((accountinglaw08_lives.f k2).bind fun t123 => (some t123)) else (some false)) = some r := H
        have A26 := Aside0.mk A260
        clear A260
        by_cases c27 : t122 = true
        ·subst c27
         have H1 : ((accountinglaw08_lives.f k2).bind fun t123 => (some t123)) = some r := by rw [if_pos rfl] at H; exact H
         clear H
         have H := H1
         clear H1
         replace H := Option.bind_eq_some_iff.mp H
         obtain ⟨t123, A280, H⟩ := H
         replace H : (some t123) = some r := H
         have A28 := Aside0.mk A280
         clear A280
         obtain rfl := Option.some.inj H
         go_wp2_with (first | ((with_reducible refine gate_callee (f := 12) rfl ?_); refine goesL_ (some 56) rfl rfl Try.func12 (by kernel_rfl) rfl #[.int .i64 a0, .slice A1 l1.length c1] rfl (by (try simp only [List.map_toArray, List.map_cons, List.map_nil]); first | done | rfl | (simp only [List.length_drop, List.length_take]; rfl)) ?_; (with_reducible refine (split_Shares.calls k2 a0 _ _ l1 t114 t115 _ ?side1 ?side2 A23.out).mono ?_); (case side1 => repeat (first | exact (Kd.C_below HR1.out HB.out) | (with_reducible refine Kd.C_alloc ?_ _) | (with_reducible refine Kd.C_drewN ?_ _) | (with_reducible refine Kd.C_drew ?_))); (case side2 => exact HC1.out); rintro e w29 ⟨v116, rfl, ho0, hb⟩; refine ⟨_, rfl, ?_⟩; have n0_ := Aside0.mk (Kd.R_elder' (by (with_reducible repeat (first | apply Kd.R_alloc | apply Kd.R_drewN | apply Kd.R_drew)); exact HO_7.out) (Kd.R_base ho0) hb); have n1_ := Aside0.mk (Kd.R_lower (Kd.R_new' ho0 (Kd.R_lt (by (with_reducible repeat (first | apply Kd.R_alloc | apply Kd.R_drewN | apply Kd.R_drew)); exact HO_7.out))) (below_size (by repeat (first | (with_reducible first | exact HB.out | apply below_alloc | apply pw_below_drewN | apply below_drew1) | exact HB.out)))); have n2_ := Aside0.mk (below_step (by repeat (first | (with_reducible first | exact HB.out | apply below_alloc | apply pw_below_drewN | apply below_drew1) | exact HB.out)) hb); clear HO_7; clear HB; have HO_7 := n0_; have HO117 := n1_; have HB := n2_; clear n0_ n1_ n2_; (try clear hb); (try clear hb2); (try clear hk); (try clear hi); (try clear ho0); obtain ⟨Ao30, co30, eo30⟩ := Kd.R_slice HO_7.out; subst eo30) | ((with_reducible refine gate_callee (f := 12) rfl ?_); refine goesL_ (some 62) rfl rfl Try.func12 (by kernel_rfl) rfl #[.int .i64 a0, .slice Ao30 x7_2.length co30] rfl (by (try simp only [List.map_toArray, List.map_cons, List.map_nil]); first | done | rfl | (simp only [List.length_drop, List.length_take]; rfl)) ?_; (with_reducible refine (split_Shares.calls k2 a0 _ _ x7_2 t118 t119 _ ?side1 ?side2 A24.out).mono ?_); (case side1 => repeat (first | exact (Kd.R_reads' HO_7.out).2.2 | (with_reducible refine Kd.C_alloc ?_ _) | (with_reducible refine Kd.C_drewN ?_ _) | (with_reducible refine Kd.C_drew ?_))); (case side2 => exact (Kd.R_reads' HO_7.out).2.1); rintro e w31 ⟨v120, rfl, ho0, hb⟩; refine ⟨_, rfl, ?_⟩; have n0_ := Aside0.mk (Kd.R_elder' (by (with_reducible repeat (first | apply Kd.R_alloc | apply Kd.R_drewN | apply Kd.R_drew)); exact HO_7.out) (Kd.R_base ho0) hb); have n1_ := Aside0.mk (Kd.R_elder' (by (with_reducible repeat (first | apply Kd.R_alloc | apply Kd.R_drewN | apply Kd.R_drew)); exact HO117.out) (Kd.R_base ho0) hb); have n2_ := Aside0.mk (Kd.R_lower (Kd.R_new' (Kd.R_new' ho0 (Kd.R_lt (by (with_reducible repeat (first | apply Kd.R_alloc | apply Kd.R_drewN | apply Kd.R_drew)); exact HO_7.out))) (Kd.R_lt (by (with_reducible repeat (first | apply Kd.R_alloc | apply Kd.R_drewN | apply Kd.R_drew)); exact HO117.out))) (below_size (by repeat (first | (with_reducible first | exact HB.out | apply below_alloc | apply pw_below_drewN | apply below_drew1) | exact HB.out)))); have n3_ := Aside0.mk (below_step (by repeat (first | (with_reducible first | exact HB.out | apply below_alloc | apply pw_below_drewN | apply below_drew1) | exact HB.out)) hb); clear HO_7; clear HO117; clear HB; have HO_7 := n0_; have HO117 := n1_; have HO121 := n2_; have HB := n3_; clear n0_ n1_ n2_ n3_; (try clear hb); (try clear hb2); (try clear hk); (try clear hi); (try clear ho0); obtain ⟨Ao32, co32, eo32⟩ := Kd.R_slice HO117.out; subst eo32; obtain ⟨Ao33, co33, eo33⟩ := Kd.R_slice HO121.out; subst eo33) | (go_at_call 15; (with_reducible refine (accountingref08_Same.calls k2 _ _ t114 _ _ t118 true _ ?side1 ?side2 ?side3 ?side4 A26.out).mono ?_); (case side1 => repeat (first | exact (Kd.R_reads' HO117.out).2.2 | (with_reducible refine Kd.C_alloc ?_ _) | (with_reducible refine Kd.C_drewN ?_ _) | (with_reducible refine Kd.C_drew ?_))); (case side2 => exact (Kd.R_reads' HO117.out).2.1); (case side3 => repeat (first | exact (Kd.R_reads' HO121.out).2.2 | (with_reducible refine Kd.C_alloc ?_ _) | (with_reducible refine Kd.C_drewN ?_ _) | (with_reducible refine Kd.C_drew ?_))); (case side4 => exact (Kd.R_reads' HO121.out).2.1); rintro e w' ⟨rfl, ⟨nd, rfl⟩⟩) | (go_at_call 13; (with_reducible refine (accountinglaw08_lives.calls k2  t123 _ A28.out).mono ?_); rintro e w34 ⟨rfl, hb⟩; have n0_ := Aside0.mk (Kd.R_below (by (with_reducible repeat (first | apply Kd.R_alloc | apply Kd.R_drewN | apply Kd.R_drew)); exact HO_7.out) hb); have n1_ := Aside0.mk (Kd.R_below (by (with_reducible repeat (first | apply Kd.R_alloc | apply Kd.R_drewN | apply Kd.R_drew)); exact HO117.out) hb); have n2_ := Aside0.mk (Kd.R_below (by (with_reducible repeat (first | apply Kd.R_alloc | apply Kd.R_drewN | apply Kd.R_drew)); exact HO121.out) hb); have n3_ := Aside0.mk (below_step (by repeat (first | (with_reducible first | exact HB.out | apply below_alloc | apply pw_below_drewN | apply below_drew1) | exact HB.out)) hb); clear HO_7; clear HO117; clear HO121; clear HB; have HO_7 := n0_; have HO117 := n1_; have HO121 := n2_; have HB := n3_; clear n0_ n1_ n2_ n3_; (try clear hb); (try clear hb2); (try clear hk); (try clear hi)))
         go_ret
         exact ⟨by first | rfl | (simp [errW_none, errW_some] <;> rfl) | (simp [*, errW_none, errW_some] <;> rfl), by repeat (first | (with_reducible first | exact HB.out | apply below_alloc | apply pw_below_drewN | apply below_drew1) | exact HB.out)⟩
        ·replace c27 := Bool.eq_false_iff.mpr c27
         subst c27
         have H1 : (some false) = some r := by rw [if_neg (show ¬ (false = true) by decide)] at H; exact H
         clear H
         have H := H1
         clear H1
         obtain rfl := Option.some.inj H
         go_wp2_with (first | ((with_reducible refine gate_callee (f := 12) rfl ?_); refine goesL_ (some 56) rfl rfl Try.func12 (by kernel_rfl) rfl #[.int .i64 a0, .slice A1 l1.length c1] rfl (by (try simp only [List.map_toArray, List.map_cons, List.map_nil]); first | done | rfl | (simp only [List.length_drop, List.length_take]; rfl)) ?_; (with_reducible refine (split_Shares.calls k2 a0 _ _ l1 t114 t115 _ ?side1 ?side2 A23.out).mono ?_); (case side1 => repeat (first | exact (Kd.C_below HR1.out HB.out) | (with_reducible refine Kd.C_alloc ?_ _) | (with_reducible refine Kd.C_drewN ?_ _) | (with_reducible refine Kd.C_drew ?_))); (case side2 => exact HC1.out); rintro e w35 ⟨v116, rfl, ho0, hb⟩; refine ⟨_, rfl, ?_⟩; have n0_ := Aside0.mk (Kd.R_elder' (by (with_reducible repeat (first | apply Kd.R_alloc | apply Kd.R_drewN | apply Kd.R_drew)); exact HO_7.out) (Kd.R_base ho0) hb); have n1_ := Aside0.mk (Kd.R_lower (Kd.R_new' ho0 (Kd.R_lt (by (with_reducible repeat (first | apply Kd.R_alloc | apply Kd.R_drewN | apply Kd.R_drew)); exact HO_7.out))) (below_size (by repeat (first | (with_reducible first | exact HB.out | apply below_alloc | apply pw_below_drewN | apply below_drew1) | exact HB.out)))); have n2_ := Aside0.mk (below_step (by repeat (first | (with_reducible first | exact HB.out | apply below_alloc | apply pw_below_drewN | apply below_drew1) | exact HB.out)) hb); clear HO_7; clear HB; have HO_7 := n0_; have HO117 := n1_; have HB := n2_; clear n0_ n1_ n2_; (try clear hb); (try clear hb2); (try clear hk); (try clear hi); (try clear ho0); obtain ⟨Ao36, co36, eo36⟩ := Kd.R_slice HO_7.out; subst eo36) | ((with_reducible refine gate_callee (f := 12) rfl ?_); refine goesL_ (some 62) rfl rfl Try.func12 (by kernel_rfl) rfl #[.int .i64 a0, .slice Ao36 x7_2.length co36] rfl (by (try simp only [List.map_toArray, List.map_cons, List.map_nil]); first | done | rfl | (simp only [List.length_drop, List.length_take]; rfl)) ?_; (with_reducible refine (split_Shares.calls k2 a0 _ _ x7_2 t118 t119 _ ?side1 ?side2 A24.out).mono ?_); (case side1 => repeat (first | exact (Kd.R_reads' HO_7.out).2.2 | (with_reducible refine Kd.C_alloc ?_ _) | (with_reducible refine Kd.C_drewN ?_ _) | (with_reducible refine Kd.C_drew ?_))); (case side2 => exact (Kd.R_reads' HO_7.out).2.1); rintro e w37 ⟨v120, rfl, ho0, hb⟩; refine ⟨_, rfl, ?_⟩; have n0_ := Aside0.mk (Kd.R_elder' (by (with_reducible repeat (first | apply Kd.R_alloc | apply Kd.R_drewN | apply Kd.R_drew)); exact HO_7.out) (Kd.R_base ho0) hb); have n1_ := Aside0.mk (Kd.R_elder' (by (with_reducible repeat (first | apply Kd.R_alloc | apply Kd.R_drewN | apply Kd.R_drew)); exact HO117.out) (Kd.R_base ho0) hb); have n2_ := Aside0.mk (Kd.R_lower (Kd.R_new' (Kd.R_new' ho0 (Kd.R_lt (by (with_reducible repeat (first | apply Kd.R_alloc | apply Kd.R_drewN | apply Kd.R_drew)); exact HO_7.out))) (Kd.R_lt (by (with_reducible repeat (first | apply Kd.R_alloc | apply Kd.R_drewN | apply Kd.R_drew)); exact HO117.out))) (below_size (by repeat (first | (with_reducible first | exact HB.out | apply below_alloc | apply pw_below_drewN | apply below_drew1) | exact HB.out)))); have n3_ := Aside0.mk (below_step (by repeat (first | (with_reducible first | exact HB.out | apply below_alloc | apply pw_below_drewN | apply below_drew1) | exact HB.out)) hb); clear HO_7; clear HO117; clear HB; have HO_7 := n0_; have HO117 := n1_; have HO121 := n2_; have HB := n3_; clear n0_ n1_ n2_ n3_; (try clear hb); (try clear hb2); (try clear hk); (try clear hi); (try clear ho0); obtain ⟨Ao38, co38, eo38⟩ := Kd.R_slice HO117.out; subst eo38; obtain ⟨Ao39, co39, eo39⟩ := Kd.R_slice HO121.out; subst eo39) | (go_at_call 15; (with_reducible refine (accountingref08_Same.calls k2 _ _ t114 _ _ t118 false _ ?side1 ?side2 ?side3 ?side4 A26.out).mono ?_); (case side1 => repeat (first | exact (Kd.R_reads' HO117.out).2.2 | (with_reducible refine Kd.C_alloc ?_ _) | (with_reducible refine Kd.C_drewN ?_ _) | (with_reducible refine Kd.C_drew ?_))); (case side2 => exact (Kd.R_reads' HO117.out).2.1); (case side3 => repeat (first | exact (Kd.R_reads' HO121.out).2.2 | (with_reducible refine Kd.C_alloc ?_ _) | (with_reducible refine Kd.C_drewN ?_ _) | (with_reducible refine Kd.C_drew ?_))); (case side4 => exact (Kd.R_reads' HO121.out).2.1); rintro e w' ⟨rfl, ⟨nd, rfl⟩⟩))
         go_ret
         exact ⟨by first | rfl | (simp [errW_none, errW_some] <;> rfl) | (simp [*, errW_none, errW_some] <;> rfl), by repeat (first | (with_reducible first | exact HB.out | apply below_alloc | apply pw_below_drewN | apply below_drew1) | exact HB.out)⟩
       ·rw [if_neg c25] at H
        have c25b0 : (t115 == t119) = false := beq_eq_false_iff_ne.mpr c25
        have c25b1 : (t115 != t119) = true := bne_iff_ne.mpr c25
        obtain rfl := Option.some.inj H
        go_wp2_with (first | ((with_reducible refine gate_callee (f := 12) rfl ?_); refine goesL_ (some 56) rfl rfl Try.func12 (by kernel_rfl) rfl #[.int .i64 a0, .slice A1 l1.length c1] rfl (by (try simp only [List.map_toArray, List.map_cons, List.map_nil]); first | done | rfl | (simp only [List.length_drop, List.length_take]; rfl)) ?_; (with_reducible refine (split_Shares.calls k2 a0 _ _ l1 t114 t115 _ ?side1 ?side2 A23.out).mono ?_); (case side1 => repeat (first | exact (Kd.C_below HR1.out HB.out) | (with_reducible refine Kd.C_alloc ?_ _) | (with_reducible refine Kd.C_drewN ?_ _) | (with_reducible refine Kd.C_drew ?_))); (case side2 => exact HC1.out); rintro e w40 ⟨v116, rfl, ho0, hb⟩; refine ⟨_, rfl, ?_⟩; have n0_ := Aside0.mk (Kd.R_elder' (by (with_reducible repeat (first | apply Kd.R_alloc | apply Kd.R_drewN | apply Kd.R_drew)); exact HO_7.out) (Kd.R_base ho0) hb); have n1_ := Aside0.mk (Kd.R_lower (Kd.R_new' ho0 (Kd.R_lt (by (with_reducible repeat (first | apply Kd.R_alloc | apply Kd.R_drewN | apply Kd.R_drew)); exact HO_7.out))) (below_size (by repeat (first | (with_reducible first | exact HB.out | apply below_alloc | apply pw_below_drewN | apply below_drew1) | exact HB.out)))); have n2_ := Aside0.mk (below_step (by repeat (first | (with_reducible first | exact HB.out | apply below_alloc | apply pw_below_drewN | apply below_drew1) | exact HB.out)) hb); clear HO_7; clear HB; have HO_7 := n0_; have HO117 := n1_; have HB := n2_; clear n0_ n1_ n2_; (try clear hb); (try clear hb2); (try clear hk); (try clear hi); (try clear ho0); obtain ⟨Ao41, co41, eo41⟩ := Kd.R_slice HO_7.out; subst eo41) | ((with_reducible refine gate_callee (f := 12) rfl ?_); refine goesL_ (some 62) rfl rfl Try.func12 (by kernel_rfl) rfl #[.int .i64 a0, .slice Ao41 x7_2.length co41] rfl (by (try simp only [List.map_toArray, List.map_cons, List.map_nil]); first | done | rfl | (simp only [List.length_drop, List.length_take]; rfl)) ?_; (with_reducible refine (split_Shares.calls k2 a0 _ _ x7_2 t118 t119 _ ?side1 ?side2 A24.out).mono ?_); (case side1 => repeat (first | exact (Kd.R_reads' HO_7.out).2.2 | (with_reducible refine Kd.C_alloc ?_ _) | (with_reducible refine Kd.C_drewN ?_ _) | (with_reducible refine Kd.C_drew ?_))); (case side2 => exact (Kd.R_reads' HO_7.out).2.1); rintro e w42 ⟨v120, rfl, ho0, hb⟩; refine ⟨_, rfl, ?_⟩; have n0_ := Aside0.mk (Kd.R_elder' (by (with_reducible repeat (first | apply Kd.R_alloc | apply Kd.R_drewN | apply Kd.R_drew)); exact HO_7.out) (Kd.R_base ho0) hb); have n1_ := Aside0.mk (Kd.R_elder' (by (with_reducible repeat (first | apply Kd.R_alloc | apply Kd.R_drewN | apply Kd.R_drew)); exact HO117.out) (Kd.R_base ho0) hb); have n2_ := Aside0.mk (Kd.R_lower (Kd.R_new' (Kd.R_new' ho0 (Kd.R_lt (by (with_reducible repeat (first | apply Kd.R_alloc | apply Kd.R_drewN | apply Kd.R_drew)); exact HO_7.out))) (Kd.R_lt (by (with_reducible repeat (first | apply Kd.R_alloc | apply Kd.R_drewN | apply Kd.R_drew)); exact HO117.out))) (below_size (by repeat (first | (with_reducible first | exact HB.out | apply below_alloc | apply pw_below_drewN | apply below_drew1) | exact HB.out)))); have n3_ := Aside0.mk (below_step (by repeat (first | (with_reducible first | exact HB.out | apply below_alloc | apply pw_below_drewN | apply below_drew1) | exact HB.out)) hb); clear HO_7; clear HO117; clear HB; have HO_7 := n0_; have HO117 := n1_; have HO121 := n2_; have HB := n3_; clear n0_ n1_ n2_ n3_; (try clear hb); (try clear hb2); (try clear hk); (try clear hi); (try clear ho0)))
        go_ret
        exact ⟨by first | rfl | (simp [errW_none, errW_some] <;> rfl) | (simp [*, errW_none, errW_some] <;> rfl), by repeat (first | (with_reducible first | exact HB.out | apply below_alloc | apply pw_below_drewN | apply below_drew1) | exact HB.out)⟩

/-- THE ONE PURE STATEMENT of accountinglaw08_SplitScales: yours. -/
def accountinglaw08_SplitScales.Pure : Prop := ∀ (a0 : Int) (l1 : List Int) (a2 : Int), (Lit.int .i64 a0).wf = true → l1.length ≤ maxLen → l1.length * 8 ≤ 140737488351232 → (∀ x ∈ l1, (Lit.int .i64 x).wf = true) → (Lit.int .i64 a2).wf = true → ∃ k, accountinglaw08_SplitScales.f k a0 l1 a2 = some true
theorem accountinglaw08_SplitScales.walk (P : accountinglaw08_SplitScales.Pure) (a0 : Int) (a1 : Option Addr) (len1 cap1 : Nat) (z1 : List Int) (a2 : Int) (w : World) (w0 : (Lit.int .i64 a0).wf = true) (w1 : (a1 = none ∧ len1 = 0 ∧ cap1 = 0 ∧ z1 = []) ∨ ∃ x, a1 = some x ∧ len1 ≤ cap1 ∧ cap1 ≤ maxLen ∧ z1.length = cap1 ∧ (∀ i, i < z1.length → w.cell? (x.add i) = some (.int .i64 (z1.getD i 0))) ∧ ∀ n ∈ z1, (Lit.int .i64 n).wf = true) (y1 : len1 * 8 ≤ 140737488351232) (w2 : (Lit.int .i64 a2).wf = true) :
    Calls Try.prog 8 #[.int .i64 a0, .slice a1 len1 cap1, .int .i64 a2] w fun e w' => e = .returned (.bool true) ∧ Below w.heap.size w w' := by
 obtain ⟨l1, rfl, hr1, hm1, hw1, hc1⟩ := ReadsInt.ofRowC w1
 obtain ⟨k, h⟩ := P a0 l1 a2 w0 hm1 y1 hw1 w2
 refine (accountinglaw08_SplitScales.calls k a0 _ _ l1 a2 true w (Kd.C_of_reads (d := (0 : Int)) (h1 := fun _ => rfl) hr1) hc1 h).mono ?_
 rintro e w' ⟨rfl, hd⟩
 exact ⟨rfl, hd⟩

end Go.Proofs.Ytikglhfeookhaaa.M
end
section
-- Written by mprint.py (a program of this session) over the kit's print.
namespace Go.Proofs.Ytikglhfeookhaaa.M
open Go.RowKit Go.Proofs.YtikglhfeookhaaaW.PrintWords Go.Proofs.YtikglhfeookhaaaW.PrintLast Go.Proofs.YtikglhfeookhaaaW.PrintMore
attribute [local go_sem] max2_int min2_int max_two min_two max_three min_three max_four min_four   -- for this text's walks alone
set_option linter.unusedVariables false
set_option linter.unusedSimpArgs false

/-! ### accountinglaw08_size: function 19 -/
def accountinglaw08_size.f (a0 : Int) : Option (Int) := if a0 < 0 then (some (wrap64 (-a0))) else (some a0)
set_option maxHeartbeats 8000000 in
set_option maxRecDepth 100000 in
theorem accountinglaw08_size.calls (a0 : Int) (r : Int) (w : World) (h : accountinglaw08_size.f a0 = some r) :
    Calls Try.prog 19 #[.int .i64 a0] w fun e w' => e = .returned (.int .i64 r) ∧ Drawn0 w w' := by
 have H : (if a0 < 0 then (some (wrap64 (-a0))) else (some a0)) = some r := h
 clear h
 by_cases c2 : a0 < 0
 ·rw [if_pos c2] at H
  have c2b0 : decide (a0 < 0) = true := decide_eq_true c2
  clear c2
  obtain rfl := Option.some.inj H
  go_enter Try.func19, Try.ntmps19
  go_wp2
  go_ret
  exact ⟨by first | rfl | (simp; done) | (simp [*]; done), by repeat (first | exact Drawn0.refl _ | apply Drawn0.step)⟩
 ·rw [if_neg c2] at H
  have c2b0 : decide (a0 < 0) = false := decide_eq_false c2
  clear c2
  obtain rfl := Option.some.inj H
  go_enter Try.func19, Try.ntmps19
  go_wp2
  go_ret
  exact ⟨by first | rfl | (simp; done) | (simp [*]; done), by repeat (first | exact Drawn0.refl _ | apply Drawn0.step)⟩

end Go.Proofs.Ytikglhfeookhaaa.M
end
section
/- The shares, place by place: which are one more, how they are ordered, what multiplying the weights does. -/
namespace Go.Proofs.Ytikglhfeookhaaa.M
open Go.RowKit Go.Proofs.YtikglhfeookhaaaW.PrintWords Dv
set_option linter.unusedVariables false
theorem rd_map (f : Int → Int) (l : List Int) (i : Int) (h0 : 0 ≤ i) (h1 : i < l.length) : rd (l.map f) i = f (rd l i) := by
  unfold rd
  rw [List.getD_eq_getElem?_getD, List.getD_eq_getElem?_getD, List.getElem?_map, List.getElem?_eq_getElem (show i.toNat < l.length by omega)]
  rfl
theorem Fit.nodup {s : Int} {l : List Int} (h : Fit s l) : ((M.rk (rs s l.sum l)).take (lf s l.sum l).toNat).Nodup := by
  have p : (M.rk (rs s l.sum l)).Nodup := List.Pairwise.imp (S := fun x y => x ≠ y) (fun {x y} q e => (rOrd.tot (rs s l.sum l)).irr x (by rw [← e] at q; exact q)) h.rk.2
  exact p.sublist (List.take_sublist _ _)
/-- Is the part at this place one more? -/
def sel (s : Int) (l : List Int) (i : Int) : Prop := i ∈ (rk (rs s l.sum l)).take (lf s l.sum l).toNat
theorem rd_pos {s : Int} {l : List Int} (h : Fit s l) (i : Int) (h0 : 0 ≤ i) (h1 : i < l.length) : (sel s l i → rd (pos s l) i = s * rd l i / l.sum + 1) ∧ (¬ sel s l i → rd (pos s l) i = s * rd l i / l.sum) := by
  have e : rd (pos s l) i = rd (qs s l.sum l) i + if i ∈ (rk (rs s l.sum l)).take (lf s l.sum l).toNat then 1 else 0 := rd_inc _ _ i h.nodup h.take h0
  have e2 : rd (qs s l.sum l) i = s * rd l i / l.sum := rd_map _ l i h0 h1
  rw [e, e2]
  unfold sel
  refine ⟨fun k => ?_, fun k => ?_⟩
  · rw [if_pos k]
  · rw [if_neg k]; omega
theorem sel_up {s : Int} {l : List Int} (h : Fit s l) {i k : Int} (h0 : 0 ≤ i) (h1 : i < l.length) (o : rOrd (rs s l.sum l) i k) (hk : sel s l k) : sel s l i := by
  have hi : i ∈ rk (rs s l.sum l) := h.rk.1.mem_iff.2 ((mem_idx _ _).2 ⟨h0, h1⟩)
  have he := List.take_append_drop (lf s l.sum l).toNat (rk (rs s l.sum l))
  have hp := h.rk.2
  rw [← he] at hi hp
  rcases List.mem_append.1 hi with q | q
  · exact q
  · have := (List.pairwise_append.1 hp).2.2 k hk i q
    exact absurd o ((rOrd.tot _).asym this)
theorem perm_sum {l m : List Int} (h : l.Perm m) : l.sum = m.sum := by
  induction h with
  | nil => rfl
  | cons x _ ih => simp only [List.sum_cons, ih]
  | swap x y l => simp only [List.sum_cons]; omega
  | trans _ _ a b => rw [a, b]
theorem map_rd_idx : ∀ r : List Int, (idx r.length).map (rd r) = r := by
  intro r
  apply List.ext_getElem
  · simp [idx_length]
  · intro i h1 h2
    simp [idx, rd, List.getElem?_eq_getElem h2]
theorem sel_rest {s : Int} {l : List Int} (h : Fit s l) {i : Int} (hs : sel s l i) : 0 < rd (rs s l.sum l) i := by
  have hb := rs_bounds s l.sum h.t0 l
  have lb := lf_bounds s l h.t0
  have hl : (rk (rs s l.sum l)).length = l.length := by rw [h.rk.1.length_eq, idx_length]
  have hi := h.take i hs
  have hql : (qs s l.sum l).length = (rs s l.sum l).length := by simp [qs, rs]
  rw [hql] at hi
  have h0 := hb _ (rd_mem' _ i hi.1 hi.2)
  rcases Int.lt_or_eq_of_le h0.1 with z | hz
  · exact z
  exfalso
  have he := List.take_append_drop (lf s l.sum l).toNat (rk (rs s l.sum l))
  have hp := h.rk.2
  rw [← he] at hp
  have hd : ∀ j ∈ (rk (rs s l.sum l)).drop (lf s l.sum l).toNat, rd (rs s l.sum l) j = 0 := fun j hj => by
    have o := (List.pairwise_append.1 hp).2.2 i hs j hj
    have hjm := h.rk.1.mem_iff.1 (List.mem_of_mem_drop hj)
    rw [mem_idx] at hjm
    have hj0 := (hb _ (rd_mem' (rs s l.sum l) j hjm.1 (by simp [rs]; omega))).1
    unfold rOrd at o
    omega
  have zero : ∀ D : List Int, (∀ j ∈ D, rd (rs s l.sum l) j = 0) → (D.map (rd (rs s l.sum l))).sum = 0 := by
    intro D
    induction D with
    | nil => intro _; rfl
    | cons x D ih => intro hD; simp only [List.map_cons, List.sum_cons, hD x (by simp), ih (fun j hj => hD j (by simp [hj]))]; rfl
  have tot : ((rk (rs s l.sum l)).map (rd (rs s l.sum l))).sum = (rs s l.sum l).sum := by
    have e1 := perm_sum (h.rk.1.map (rd (rs s l.sum l)))
    rw [e1]
    have e2 : l.length = (rs s l.sum l).length := by simp [rs]
    rw [e2, map_rd_idx]
  rw [← he, List.map_append, List.sum_append, zero _ hd, Int.add_zero] at tot
  obtain ⟨T', hT⟩ : ∃ T', ((rk (rs s l.sum l)).take (lf s l.sum l).toNat).Perm (i :: T') := ⟨_, List.perm_cons_erase hs⟩
  have hlen : ((rk (rs s l.sum l)).take (lf s l.sum l).toNat).length = T'.length + 1 := by rw [hT.length_eq]; rfl
  rw [List.length_take, hl] at hlen
  have e3 := perm_sum (hT.map (rd (rs s l.sum l)))
  rw [List.map_cons, List.sum_cons, ← hz, Int.zero_add] at e3
  have b := sum_rs l.sum (T'.map (rd (rs s l.sum l))) (fun x hx => by
    obtain ⟨j, hj, rfl⟩ := List.mem_map.1 hx
    have := h.take j (hT.mem_iff.2 (by simp [hj]))
    rw [hql] at this
    exact hb _ (rd_mem' _ j this.1 this.2))
  rw [List.length_map] at b
  have e4 : l.sum * lf s l.sum l ≤ l.sum * T'.length := by omega
  have := Int.le_of_mul_le_mul_left e4 h.t0
  omega
/-- The order of the shares. -/
theorem pos_order {s : Int} {l : List Int} (h : Fit s l) {i k : Int} (i0 : 0 ≤ i) (i1 : i < l.length) (k0 : 0 ≤ k) (k1 : k < l.length) (o : rd l i > rd l k ∨ (rd l i = rd l k ∧ i < k)) : rd (pos s l) k ≤ rd (pos s l) i := by
  have pi := rd_pos h i i0 i1
  have pk := rd_pos h k k0 k1
  have ri : rd (rs s l.sum l) i = s * rd l i % l.sum := rd_map _ l i i0 i1
  have rk' : rd (rs s l.sum l) k = s * rd l k % l.sum := rd_map _ l k k0 k1
  have mono : s * rd l k ≤ s * rd l i := Int.mul_le_mul_of_nonneg_left (by omega) h.s0
  have qm := Int.ediv_le_ediv h.t0 mono
  by_cases hq : s * rd l k / l.sum = s * rd l i / l.sum
  · by_cases hk : sel s l k
    · have oo : rOrd (rs s l.sum l) i k := by
        unfold rOrd
        rw [ri, rk']
        have d1 := Int.emod_add_mul_ediv (s * rd l i) l.sum
        have d2 := Int.emod_add_mul_ediv (s * rd l k) l.sum
        rw [hq] at d2
        by_cases he : s * rd l k = s * rd l i
        · rcases o with o | o
          · have : s * (rd l i - rd l k) = 0 := by rw [Int.mul_sub]; omega
            rcases Int.mul_eq_zero.1 this with z | z
            · exfalso
              subst z
              have lz : lf 0 l.sum l = 0 := by
                have := (lf_bounds 0 l h.t0).2.2
                have e : (rs 0 l.sum l).sum = 0 := by
                  have := sum_qr 0 l.sum h.t0 l
                  have hr := sum_rs l.sum (rs 0 l.sum l) (rs_bounds 0 l.sum h.t0 l)
                  have hq : 0 ≤ (qs 0 l.sum l).sum := sum_nonneg _ (fun x hx => (qs_bounds (Int.le_refl 0) (by omega) h.t0 l h.w x hx).1)
                  have : 0 ≤ l.sum * (qs 0 l.sum l).sum := Int.mul_nonneg (by have := h.t0; omega) hq
                  omega
                rw [e] at this
                rcases Int.mul_eq_zero.1 this with z | z
                · have := h.t0; omega
                · exact z
              unfold sel at hk
              rw [lz] at hk
              simp at hk
            · omega
          · right; rw [he]; exact ⟨rfl, o.2⟩
        · left; omega
      rw [pk.1 hk, pi.1 (sel_up h i0 i1 oo hk)]; omega
    · rw [pk.2 hk]
      by_cases hi : sel s l i
      · rw [pi.1 hi]; omega
      · rw [pi.2 hi]; omega
  · have a1 : rd (pos s l) k ≤ s * rd l k / l.sum + 1 := by
      by_cases hk : sel s l k
      · rw [pk.1 hk]; omega
      · rw [pk.2 hk]; omega
    have a2 : s * rd l i / l.sum ≤ rd (pos s l) i := by
      by_cases hi : sel s l i
      · rw [pi.1 hi]; omega
      · rw [pi.2 hi]; omega
    omega
theorem size_shr {a : Int} {l : List Int} (h : shErr a l = 0) (i : Int) (h0 : 0 ≤ i) (h1 : i < l.length) : accountinglaw08_size.f (rd (shr a l) i) = some (rd (pos (if a < 0 then -a else a) l) i) := by
  have F := shErr_le h
  unfold shr accountinglaw08_size.f
  have hb := pos_bounds F _ (rd_mem' (pos (if a < 0 then -a else a) l) i h0 (by rw [pos_length]; exact h1))
  by_cases c : a < 0
  · simp only [if_pos c] at hb ⊢
    rw [rd_map _ _ i h0 (by rw [pos_length]; exact h1)]
    by_cases z : -rd (pos (-a) l) i < 0
    · rw [if_pos z, w64 (by omega) (by omega), Int.neg_neg]
    · rw [if_neg z]; congr 1; omega
  · simp only [if_neg c] at hb ⊢
    rw [if_neg (by omega)]
/-! All weights multiplied. -/
theorem sum_mul (m : Int) : ∀ l : List Int, (l.map (· * m)).sum = l.sum * m
  | [] => by simp
  | x :: l => by simp only [List.map_cons, List.sum_cons, sum_mul m l, Int.add_mul]
theorem qs_mul (s t m : Int) (hm : 0 < m) (l : List Int) : qs s (t * m) (l.map (· * m)) = qs s t l := by
  unfold qs
  rw [List.map_map]
  refine List.map_congr_left (fun w _ => ?_)
  show s * (w * m) / (t * m) = s * w / t
  rw [← Int.mul_assoc]
  exact Int.mul_ediv_mul_of_pos_left _ _ hm
theorem rs_mul (s t m : Int) (hm : 0 < m) (l : List Int) : rs s (t * m) (l.map (· * m)) = (rs s t l).map (· * m) := by
  unfold rs
  rw [List.map_map, List.map_map]
  refine List.map_congr_left (fun w _ => ?_)
  show s * (w * m) % (t * m) = s * w % t * m
  rw [← Int.mul_assoc, Int.mul_comm (s * w) m, Int.mul_comm t m, Int.mul_emod_mul_of_pos _ _ hm, Int.mul_comm]
theorem rd_mul (m : Int) (r : List Int) (i : Int) : rd (r.map (· * m)) i = rd r i * m := by
  unfold rd
  rw [List.getD_eq_getElem?_getD, List.getD_eq_getElem?_getD, List.getElem?_map]
  cases r[i.toNat]? <;> simp
theorem rk_mul (m : Int) (hm : 0 < m) (r : List Int) (h : r.length < 1000) : rk (r.map (· * m)) = rk r := by
  obtain ⟨a, b⟩ := rk_spec r h
  refine (rk_uniq (r.map (· * m)) (rk r) (by simpa using h) (by simpa using a) (b.imp ?_)).symm
  intro x y o
  unfold rOrd at *
  rw [rd_mul, rd_mul]
  rcases o with o | o
  · left; exact Int.mul_lt_mul_of_pos_right o hm
  · right; rw [o.1]; exact ⟨rfl, o.2⟩
theorem pos_mul (s m : Int) (hm : 0 < m) (l : List Int) (hl : l.length < 1000) : pos s (l.map (· * m)) = pos s l := by
  unfold pos lf
  rw [sum_mul, qs_mul s _ m hm, rs_mul s _ m hm, rk_mul m hm _ (by simpa [rs] using hl)]
theorem shr_mul (a m : Int) (hm : 0 < m) (l : List Int) (hl : l.length < 1000) : shr a (l.map (· * m)) = shr a l := by
  unfold shr
  rw [pos_mul _ m hm l hl, pos_mul _ m hm l hl]
theorem shErr_mul (a m : Int) (hm : 0 < m) (l : List Int) (hw : ∀ x ∈ l, 0 ≤ x) (hb : l.sum * m ≤ 1000000000000000) : shErr a (l.map (· * m)) = shErr a l := by
  have h0 := sum_nonneg l hw
  have h1 : l.sum ≤ 1000000000000000 := by
    have : l.sum * 1 ≤ l.sum * m := Int.mul_le_mul_of_nonneg_left (by omega) h0
    omega
  have n1 : ¬ ∃ x ∈ l, x < 0 := by
    rintro ⟨x, hx, k⟩
    have := hw x hx
    omega
  have n2 : ¬ ∃ x ∈ l.map (· * m), x < 0 := by
    rintro ⟨x, hx, k⟩
    obtain ⟨w, hwm, rfl⟩ := List.mem_map.1 hx
    have := Int.mul_nonneg (hw w hwm) (Int.le_of_lt hm)
    have k' : w * m < 0 := k
    omega
  unfold shErr
  rw [List.length_map, if_neg n1, if_neg n2, sum_mul, if_neg (show ¬ l.sum * m > 1000000000000000 by omega), if_neg (show ¬ l.sum > 1000000000000000 by omega)]
  have z : (l.sum * m = 0) ↔ (l.sum = 0) := by
    rw [Int.mul_eq_zero]; omega
  by_cases c : l.sum = 0
  · rw [if_pos c, if_pos (z.2 c)]
  · rw [if_neg c, if_neg (fun k => c (z.1 k))]
end Go.Proofs.Ytikglhfeookhaaa.M
end
section
/- Multiplying all weights by the same positive number does not change the shares: the law holds for every amount, all weights and numbers. -/
namespace Go.Proofs.Ytikglhfeookhaaa.M
open Go.RowKit Go.Proofs.YtikglhfeookhaaaW.PrintWords Dv
set_option linter.unusedVariables false
theorem scale_loop {a m : Int} {L : List Int} (hm : 1 ≤ m) (hm2 : m ≤ 1000) (hn : L.length ≤ 260) : ∀ (B A : List Int) (i : Int), L = A ++ B → i = (A.length : Int) → (∀ x ∈ A, 0 ≤ x ∧ x ≤ 1000000000) → Ev (fun k => accountinglaw08_SplitScales.l0 k a L m (A.map (· * m)) i) true
  | [], A, i, he, hi, hA => by
    rw [List.append_nil] at he
    subst he
    refine Ev.succ ?_
    have g : ¬ i < (L.length : Int) := by omega
    simp only [accountinglaw08_SplitScales.l0, if_neg g]
    have bound : ∀ l : List Int, (∀ x ∈ l, 0 ≤ x ∧ x ≤ 1000000000) → l.sum ≤ 1000000000 * l.length := by
      intro l
      induction l with
      | nil => intro _; simp
      | cons x l ih =>
        intro h
        have := ih (fun y hy => h y (by simp [hy]))
        have := h x (by simp)
        simp only [List.sum_cons, List.length_cons]; omega
    have b1 := bound L hA
    have b0 := sum_nonneg L (fun x hx => (hA x hx).1)
    have b2 : L.sum * m ≤ 260000000000 * 1000 := Int.mul_le_mul (by omega) hm2 (by omega) (by omega)
    have S := split_Shares.eq (a := a) (l := L) (by omega) (fun x hx => by have := hA x hx; omega)
    have S2 := split_Shares.eq (a := a) (l := L.map (· * m)) (by simp; omega) (fun x hx => by
      obtain ⟨w, hw, rfl⟩ := List.mem_map.1 hx
      have := hA w hw
      have : w * m ≤ 1000000000 * 1000 := Int.mul_le_mul (by omega) hm2 (by omega) (by omega)
      show w * m ≤ _
      omega)
    rw [shErr_mul a m (by omega) L (fun x hx => (hA x hx).1) (by omega), shr_mul a m (by omega) L (by omega)] at S2
    refine Ev.bind S (Ev.bind S2 ?_)
    simp only [if_true]
    refine Ev.bind (accountingref08_Same.self _ (by split <;> simp [shr_length]; omega)) ?_
    simp only [if_true]
    exact Ev.bind accountinglaw08_lives.true (Ev.const _)
  | x :: B, A, i, he, hi, hA => by
    have hl : (L.length : Int) = A.length + B.length + 1 := by subst he; simp; omega
    have g1 : 0 ≤ i := by omega
    have g2 : i < (L.length : Int) := by omega
    have r : rd L i = x := by subst he; exact rd_at A x B i hi
    have e : wrap64 (i + 1) = i + 1 := w64 (by omega) (by omega)
    refine Ev.succ ?_
    by_cases c1 : x > 1000000000
    · simp only [accountinglaw08_SplitScales.l0, if_pos g1, if_pos g2, r, if_pos c1]
      exact Ev.bind accountinglaw08_lives.true (Ev.const _)
    · by_cases c2 : x < 0
      · simp only [accountinglaw08_SplitScales.l0, if_pos g1, if_pos g2, r, if_neg c1, if_pos c2]
        exact Ev.bind accountinglaw08_lives.true (Ev.const _)
      · have g3 : (A.map (· * m)).length < 17592186044416 := by rw [List.length_map]; omega
        have hp : x * m ≤ 1000000000 * 1000 := Int.mul_le_mul (by omega) hm2 (by omega) (by omega)
        have hp0 : 0 ≤ x * m := Int.mul_nonneg (by omega) (by omega)
        have e2 : wrap64 (x * m) = x * m := w64 (by omega) (by omega)
        simp only [accountinglaw08_SplitScales.l0, if_pos g1, if_pos g2, r, if_neg c1, if_neg c2, if_pos g3, e, e2]
        have ih := scale_loop (a := a) hm hm2 hn B (A ++ [x]) (i + 1) (by simp [he]) (by simp; omega) (fun y hy => by
          rcases List.mem_append.1 hy with h | h
          · exact hA y h
          · rw [List.mem_singleton.1 h]; omega)
        simpa using ih
theorem pure_SplitScales : accountinglaw08_SplitScales.Pure := by
  intro a l m ha hl hsz hw hm
  refine Ev.out (g := fun k => accountinglaw08_SplitScales.f k a l m) ?_
  have J : ∀ b, b = true → Ev (fun k => accountinglaw08_SplitScales.j0 k a l m b) true := by
    rintro b rfl
    refine Ev.succ ?_
    simp only [accountinglaw08_SplitScales.j0, if_true]
    exact Ev.bind accountinglaw08_lives.true (Ev.const _)
  simp only [accountinglaw08_SplitScales.f, many_eq, Option.bind_some]
  by_cases c : l.length > 260
  · simp only [decide_eq_true c, if_true]
    exact J _ rfl
  · simp only [decide_eq_false c, Bool.false_eq_true, if_false]
    by_cases c1 : m < 1
    · simp only [if_pos c1]; exact J _ rfl
    · by_cases c2 : m > 1000
      · simp only [if_neg c1, decide_eq_true c2]; exact J _ rfl
      · simp only [if_neg c1, decide_eq_false c2]
        refine Ev.succ ?_
        simp only [accountinglaw08_SplitScales.j0, Bool.false_eq_true, if_false]
        have := scale_loop (a := a) (m := m) (L := l) (by omega) (by omega) (by omega) l [] 0 rfl rfl (by simp)
        simpa using this
end Go.Proofs.Ytikglhfeookhaaa.M
namespace Go.Proofs.Ytikglhfeookhaaa.Pure
theorem SplitScales : M.accountinglaw08_SplitScales.Pure := M.pure_SplitScales
end Go.Proofs.Ytikglhfeookhaaa.Pure
end
section
-- PRINTED BY print.sh 35421559b90ae4d0a3588c463048766b98c2df88dd9212a6774a882060cdf62d: not written by this session
-- PRINTED WORDS (module Derived/Print/Sized.lean): go-gate-2's, for the rows of laws over slices: an AI agent of Go's test side, Tue Nov 17 2026; no person has read it. Lean checks it.
namespace Go.Proofs.YtikglhfeookhaaaW.PrintWords
open Go.ChangeShapes Go.WideShapes
/-- A row's slice of whole numbers is no longer than its weight allows. -/
theorem sized_ints {H : Type} {enc : TypeId × Value → H} {P : Program} {W : World} {base : Nat} {spare : Nat → Bool} {held : Bool} {t e : TypeId} {k : IntKind} {a : Option Addr} {len cap : Nat} {d : DataW H} {ps : List MemPlace} {ts : List TypeId} {ds : List (DataW H)} {j : Nat}
    (hsz : (DataW.weightsEach P ts ds).all (· ≤ reachBytes) = true) (ht : ts[j]? = some t) (hd : ds[j]? = some d) (hu : P.underlying t = some (.slice e)) (he : P.underlying e = some (.int k)) (hc : P.cellsOf e = 1) {B : Nat} (hB : P.bytesOf e = B)
    (h : DataW.Trod enc P W base spare held t (.slice a len cap) d ps) : len * B ≤ 140737488351232 := by
  obtain ⟨fuel, hf⟩ := h
  rcases open_ints hu he hc hf with ⟨hcs, _⟩ | ⟨x, l, c, zs, hcs, _, hl, _, hz, hx, _, _⟩
  · simp [Value.cells] at hcs
    obtain ⟨rfl, rfl, rfl⟩ := hcs
    simp
  · simp [Value.cells] at hcs
    obtain ⟨rfl, rfl, rfl⟩ := hcs
    obtain ⟨hx, _⟩ := Prod.mk.inj hx
    subst hx
    have z := sized_slice hsz ht hd hu
    rw [hB] at z
    have hl2 : len ≤ zs.length := by
      rw [hz]
      split
      · exact hl
      · exact Nat.le_refl _
    have h1 : (lits (H := H) k (zs.take len)).length + (lits (H := H) k (zs.drop len)).length = zs.length := by
      simp [lits]
      omega
    rw [h1] at z
    exact Nat.le_trans (Nat.mul_le_mul_right _ hl2) z
end Go.Proofs.YtikglhfeookhaaaW.PrintWords
end
section
-- Written by mprint.py (a program of this session) over the kit's print.
namespace Go.Proofs.Ytikglhfeookhaaa.splitScales
open Go.ChangeShapes Go.WideShapes Go.ChangeAt Go.RowKit
open Go.ChangeMaps (open_string shut_string)
set_option linter.unusedVariables false
theorem own : ownKnob Try.prog.godebug = none := by kernel_rfl
theorem laidOut : laidOutB Try.prog = true := by kernel_rfl
def IsRow (k : IntKind) (w : World) (a : Option Addr) (len cap : Nat) (zs : List Int) : Prop :=
  (a = none ∧ len = 0 ∧ cap = 0 ∧ zs = []) ∨
  ∃ x, a = some x ∧ len ≤ cap ∧ cap ≤ maxLen ∧ zs.length = cap ∧ (∀ i, i < zs.length → w.cell? (x.add i) = some (.int k (zs.getD i 0))) ∧ ∀ n ∈ zs, (Lit.int k n).wf = true
set_option maxRecDepth 100000 in
theorem lifted (os : Os) (started : os.Started) (H : Type) (enc : TypeId × Value → H) :
    ReturnsInHanded {} Try.checked os 8 .any (Rows.splitScalesSpec.pre6 enc Try.prog Try.f8 Rows.splitScalesRow.domain false) (Rows.splitScalesSpec.post enc Try.prog Try.f8 false true false false) := by
  refine returnsInHanded_of_change_sized (C := Try.checked) own started (by kernel_rfl) Try.func8
    (ChangeSpec.witness6 (enc := enc) (C := Try.checked) false ⟨#[], #[.int .i64 0, .slice none 0 0, .int .i64 0], []⟩ 8 (by kernel_rfl) (by kernel_rfl) (by kernel_rfl) (by kernel_rfl)) ?_
  intro W base args ds gs before hval0 hW hcnd hsz0 _
  have hsz : (DataW.weightsEach Try.prog (Try.f8.params.toList ++ Rows.splitScalesSpec.plain.varTypes Try.prog) (ds ++ gs)).all (· ≤ reachBytes) = true := hsz0
  have hval : ∀ (j : Nat) t v, Try.f8.params[j]? = some t → args[j]? = some v → Value.okWide Try.prog W .any base t v := hval0
  have hW' := hW
  obtain ⟨p, q, hA0, hV, rfl, hfz, hnd⟩ := hW
  have hA : DataW.TrodAll enc Try.prog W 0 (fun _ => true) true Try.f8.params.toList args.toList ds p := hA0
  rw [Try.params8] at hA hval hsz
  obtain ⟨v0, vs0, d0, ds0, p0, q0, hargs, rfl, rfl, h0, r0⟩ := trodAll_cons hA
  obtain ⟨v1, vs1, d1, ds1, p1, q1, rfl, rfl, rfl, h1, r1⟩ := trodAll_cons r0
  obtain ⟨v2, vs2, d2, ds2, p2, q2, rfl, rfl, rfl, h2, r2⟩ := trodAll_cons r1
  obtain ⟨rfl, rfl, rfl⟩ := trodAll_nil r2
  obtain rfl : args = #[v0, v1, v2] := by cases args; simp_all
  obtain ⟨rfl, rfl⟩ := trodVars_none hV
  obtain ⟨a0, rfl, rfl, rfl, w0⟩ := open_int Try.underlying3 (hval 0 3 v0 rfl rfl) h0
  obtain ⟨a1, len1, cap1, rfl⟩ := okWide_slice Try.underlying22 (hval 1 22 v1 rfl rfl)
  have k1 := h1
  have lt1 : ∀ x ∈ p1, x.block < W.heap.size := by obtain ⟨m, hm⟩ := k1; exact DataW.trod_lt m _ _ _ hm
  obtain ⟨z1, w1⟩ : ∃ zs, IsRow .i64 W a1 len1 cap1 zs := by
    obtain ⟨fuel, hf⟩ := h1
    rcases open_ints Try.underlying22 Try.underlying3 (by kernel_rfl) hf with ⟨hcs, _⟩ | ⟨x, l, c, zs, hcs, _, hl, hm, hz, _, hcell, hwz⟩
    · simp [Value.cells] at hcs
      obtain ⟨rfl, rfl, rfl⟩ := hcs
      exact ⟨[], .inl ⟨rfl, rfl, rfl, rfl⟩⟩
    · simp [Value.cells] at hcs
      obtain ⟨rfl, rfl, rfl⟩ := hcs
      exact ⟨zs, .inr ⟨_, rfl, hl, hm, by simpa using hz, hcell, hwz⟩⟩
  have y1 : len1 * 8 ≤ 140737488351232 := Go.Proofs.YtikglhfeookhaaaW.PrintWords.sized_ints hsz (j := 1) (t := 22) rfl rfl Try.underlying22 Try.underlying3 (by kernel_rfl) (by kernel_rfl) h1
  obtain ⟨a2, rfl, rfl, rfl, w2⟩ := open_int Try.underlying3 (hval 2 3 v2 rfl rfl) h2
  clear hA0 hval0 hsz0 hsz
  refine (M.accountinglaw08_SplitScales.walk Pure.SplitScales a0 a1 len1 cap1 z1 a2 W w0 w1 y1 w2).mono fun e W' ⟨he, bel⟩ => ?_
  subst he
  exact ⟨_, rfl, _, _, _, [], _, [], hW', trodAll_mk1 (shut_bool Try.underlying4 _), (trodAll_cons_mk (shut_int Try.underlying3 w0) (trodAll_cons_mk (Below.trod laidOut (by kernel_rfl) (of_decide_eq_true (by kernel_rfl)) k1 bel lt1) (trodAll_cons_mk (shut_int Try.underlying3 w2) trodAll_mk0))), rfl, bel.frame _, fun h => by cases h⟩
theorem over : Rows.splitScalesRow.holds Try.pinned (OpenSpec.ofChange Rows.splitScalesSpec) :=
  OpenClaim.holds_of_wide 8 Try.f8 rfl rfl rfl rfl rfl rfl rfl ⟨rfl, rfl, rfl, rfl, rfl⟩ rfl rfl rfl rfl rfl (by kernel_rfl) Try.func8 (by kernel_rfl)
    (of_decide_eq_true (by kernel_rfl)) (by unfold Func.isWrapper; first | (rw [if_pos (by decide +kernel)]; kernel_rfl) | (rw [if_neg (by decide +kernel)]; exact ⟨rfl, rfl⟩))
    (fun os started H enc _ => lifted os started H enc)
theorem proved : Rows.SplitScalesSaid := over
#print axioms proved
end Go.Proofs.Ytikglhfeookhaaa.splitScales
namespace Go.Proofs.Ytikglhfeookhaaa
/-- The row, under a short name, for the claim. -/
theorem splitScales_holds : Rows.SplitScalesSaid := splitScales.proved
end Go.Proofs.Ytikglhfeookhaaa
end
