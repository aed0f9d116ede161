/- What the claims of this seat share, part 4 of 7: what the program's functions compute. -/
import Derived.Test.YtikglhfeookhaaaQB1
import Derived.Test.YtikglhfeookhaaaQB2
import Derived.Test.YtikglhfeookhaaaQB3
import Derived.Laws.BitsLemmas
import Derived.RowKit
section
-- Written by mprint.py (a program of this session) over the kit's print.
namespace Go.Proofs.Ytikglhfeookhaaa.M
open Go.RowKit Go.Proofs.YtikglhfeookhaaaW.PrintWords Go.Proofs.YtikglhfeookhaaaW.PrintLast Go.Proofs.YtikglhfeookhaaaW.PrintMore
attribute [local go_sem] max2_int min2_int max_two min_two max_three min_three max_four min_four   -- for this text's walks alone
set_option linter.unusedVariables false
set_option linter.unusedSimpArgs false

/-! ### slices_stableCmpFunc_int__split_ranked_1: function 49 -/
mutual
def slices_stableCmpFunc_int__split_ranked_1.l0 : Nat → List Int → Int → Int → Int → Int → List Int → Option (List Int)
  | 0, _, _, _, _, _, _ => none
  | k + 1, x0, x1, x6, x7, x8, x3000 => if x8 ≤ x1 then ((slices_insertionSortCmpFunc_int__split_ranked_1.f k x0 x7 x8 x3000).bind fun t125 => (slices_stableCmpFunc_int__split_ranked_1.l0 k t125 x1 x6 x8 (wrap64 (x8 + x6)) x3000)) else ((slices_insertionSortCmpFunc_int__split_ranked_1.f k x0 x7 x1 x3000).bind fun t126 => (slices_stableCmpFunc_int__split_ranked_1.l1 k t126 x1 x6 x3000))
def slices_stableCmpFunc_int__split_ranked_1.l1 : Nat → List Int → Int → Int → List Int → Option (List Int)
  | 0, _, _, _, _ => none
  | k + 1, x0, x1, x6, x3000 => if x6 < x1 then (slices_stableCmpFunc_int__split_ranked_1.l2 k x0 x1 x6 0 (wrap64 (2 * x6)) x3000) else (some x0)
def slices_stableCmpFunc_int__split_ranked_1.l2 : Nat → List Int → Int → Int → Int → Int → List Int → Option (List Int)
  | 0, _, _, _, _, _, _ => none
  | k + 1, x0, x1, x6, x7, x8, x3000 => if x8 ≤ x1 then ((slices_symMergeCmpFunc_int__split_ranked_1.f k x0 x7 (wrap64 (x7 + x6)) x8 x3000).bind fun t127 => (slices_stableCmpFunc_int__split_ranked_1.l2 k t127 x1 x6 x8 (wrap64 (x8 + (wrap64 (2 * x6)))) x3000)) else (if (wrap64 (x7 + x6)) < x1 then ((slices_symMergeCmpFunc_int__split_ranked_1.f k x0 x7 (wrap64 (x7 + x6)) x1 x3000).bind fun t128 => (slices_stableCmpFunc_int__split_ranked_1.l1 k t128 x1 (wrap64 (x6 * 2)) x3000)) else (slices_stableCmpFunc_int__split_ranked_1.l1 k x0 x1 (wrap64 (x6 * 2)) x3000))
end
def slices_stableCmpFunc_int__split_ranked_1.f (k : Nat) (l0 : List Int) (a1 : Int) (s2_0 : List Int) : Option (List Int) := slices_stableCmpFunc_int__split_ranked_1.l0 k l0 a1 20 0 20 s2_0
theorem slices_stableCmpFunc_int__split_ranked_1.mono_l : ∀ k, (∀ y0 y1 y2 y3 y4 y5, LeO (slices_stableCmpFunc_int__split_ranked_1.l0 k y0 y1 y2 y3 y4 y5) (slices_stableCmpFunc_int__split_ranked_1.l0 (k + 1) y0 y1 y2 y3 y4 y5)) ∧ (∀ y0 y1 y2 y3, LeO (slices_stableCmpFunc_int__split_ranked_1.l1 k y0 y1 y2 y3) (slices_stableCmpFunc_int__split_ranked_1.l1 (k + 1) y0 y1 y2 y3)) ∧ (∀ y0 y1 y2 y3 y4 y5, LeO (slices_stableCmpFunc_int__split_ranked_1.l2 k y0 y1 y2 y3 y4 y5) (slices_stableCmpFunc_int__split_ranked_1.l2 (k + 1) y0 y1 y2 y3 y4 y5))
  | 0 => ⟨fun _ _ _ _ _ _ r h => by simp [slices_stableCmpFunc_int__split_ranked_1.l0] at h, fun _ _ _ _ r h => by simp [slices_stableCmpFunc_int__split_ranked_1.l1] at h, fun _ _ _ _ _ _ r h => by simp [slices_stableCmpFunc_int__split_ranked_1.l2] at h⟩
  | k + 1 => by
    obtain ⟨ih0, ih1, ih2⟩ := slices_stableCmpFunc_int__split_ranked_1.mono_l k
    refine ⟨?_, ?_, ?_⟩
    · intro y0 y1 y2 y3 y4 y5
      unfold slices_stableCmpFunc_int__split_ranked_1.l0
      repeat' first
      | (with_reducible exact ih0 _ _ _ _ _ _)
      | (with_reducible exact ih1 _ _ _ _)
      | (with_reducible exact ih2 _ _ _ _ _ _)
      | (with_reducible exact slices_insertionSortCmpFunc_int__split_ranked_1.mono _ _ _ _ _)
      | (with_reducible exact slices_symMergeCmpFunc_int__split_ranked_1.mono _ _ _ _ _ _)
      | (with_reducible exact LeO.refl _)
      | (with_reducible exact LeO.none _)
      | (with_reducible refine LeO.ite ?_ ?_)
      | (with_reducible refine LeO.bind ?_ (fun _ => ?_))
      | exact ih0 _ _ _ _ _ _
      | exact ih1 _ _ _ _
      | exact ih2 _ _ _ _ _ _
      | exact slices_insertionSortCmpFunc_int__split_ranked_1.mono _ _ _ _ _
      | exact slices_symMergeCmpFunc_int__split_ranked_1.mono _ _ _ _ _ _
      | exact LeO.none _
      | refine LeO.ite ?_ ?_
      | refine LeO.bind ?_ (fun _ => ?_)
    · intro y0 y1 y2 y3
      unfold slices_stableCmpFunc_int__split_ranked_1.l1
      repeat' first
      | (with_reducible exact ih0 _ _ _ _ _ _)
      | (with_reducible exact ih1 _ _ _ _)
      | (with_reducible exact ih2 _ _ _ _ _ _)
      | (with_reducible exact slices_insertionSortCmpFunc_int__split_ranked_1.mono _ _ _ _ _)
      | (with_reducible exact slices_symMergeCmpFunc_int__split_ranked_1.mono _ _ _ _ _ _)
      | (with_reducible exact LeO.refl _)
      | (with_reducible exact LeO.none _)
      | (with_reducible refine LeO.ite ?_ ?_)
      | (with_reducible refine LeO.bind ?_ (fun _ => ?_))
      | exact ih0 _ _ _ _ _ _
      | exact ih1 _ _ _ _
      | exact ih2 _ _ _ _ _ _
      | exact slices_insertionSortCmpFunc_int__split_ranked_1.mono _ _ _ _ _
      | exact slices_symMergeCmpFunc_int__split_ranked_1.mono _ _ _ _ _ _
      | exact LeO.none _
      | refine LeO.ite ?_ ?_
      | refine LeO.bind ?_ (fun _ => ?_)
    · intro y0 y1 y2 y3 y4 y5
      unfold slices_stableCmpFunc_int__split_ranked_1.l2
      repeat' first
      | (with_reducible exact ih0 _ _ _ _ _ _)
      | (with_reducible exact ih1 _ _ _ _)
      | (with_reducible exact ih2 _ _ _ _ _ _)
      | (with_reducible exact slices_insertionSortCmpFunc_int__split_ranked_1.mono _ _ _ _ _)
      | (with_reducible exact slices_symMergeCmpFunc_int__split_ranked_1.mono _ _ _ _ _ _)
      | (with_reducible exact LeO.refl _)
      | (with_reducible exact LeO.none _)
      | (with_reducible refine LeO.ite ?_ ?_)
      | (with_reducible refine LeO.bind ?_ (fun _ => ?_))
      | exact ih0 _ _ _ _ _ _
      | exact ih1 _ _ _ _
      | exact ih2 _ _ _ _ _ _
      | exact slices_insertionSortCmpFunc_int__split_ranked_1.mono _ _ _ _ _
      | exact slices_symMergeCmpFunc_int__split_ranked_1.mono _ _ _ _ _ _
      | exact LeO.none _
      | refine LeO.ite ?_ ?_
      | refine LeO.bind ?_ (fun _ => ?_)
theorem slices_stableCmpFunc_int__split_ranked_1.mono : ∀ a0 a1 a2 k, LeO (slices_stableCmpFunc_int__split_ranked_1.f k a0 a1 a2) (slices_stableCmpFunc_int__split_ranked_1.f (k + 1) a0 a1 a2) := by
 intro a0 a1 a2 k
 obtain ⟨ih0, ih1, ih2⟩ := slices_stableCmpFunc_int__split_ranked_1.mono_l k
 unfold slices_stableCmpFunc_int__split_ranked_1.f
 repeat' first
   | (with_reducible exact ih0 _ _ _ _ _ _)
   | (with_reducible exact ih1 _ _ _ _)
   | (with_reducible exact ih2 _ _ _ _ _ _)
   | (with_reducible exact slices_insertionSortCmpFunc_int__split_ranked_1.mono _ _ _ _ _)
   | (with_reducible exact slices_symMergeCmpFunc_int__split_ranked_1.mono _ _ _ _ _ _)
   | (with_reducible exact LeO.refl _)
   | (with_reducible exact LeO.none _)
   | (with_reducible refine LeO.ite ?_ ?_)
   | (with_reducible refine LeO.bind ?_ (fun _ => ?_))
   | exact ih0 _ _ _ _ _ _
   | exact ih1 _ _ _ _
   | exact ih2 _ _ _ _ _ _
   | exact slices_insertionSortCmpFunc_int__split_ranked_1.mono _ _ _ _ _
   | exact slices_symMergeCmpFunc_int__split_ranked_1.mono _ _ _ _ _ _
   | exact LeO.none _
   | refine LeO.ite ?_ ?_
   | refine LeO.bind ?_ (fun _ => ?_)
set_option maxHeartbeats 8000000 in
set_option maxRecDepth 100000 in
theorem slices_stableCmpFunc_int__split_ranked_1.calls (k : Nat) (P0_ : Nat → Prop) (u9000_ : Value) (l0 : List Int) (a1 : Int) (g : Nat) (s2_0 : List Int) (r : List Int) (w0 w : World) (hI : IsS22 w0 w g s2_0) (hB : Below w0.heap.size w0 w) (ho0 : Kd.R (Kd.int .i64) 3 w w0.heap.size P0_ u9000_ l0) (h : slices_stableCmpFunc_int__split_ranked_1.f k l0 a1 s2_0 = some r) :
    Calls Try.prog 49 #[u9000_, .int .i64 a1, .func (.func 46) #[] #[.pointer (some ⟨g, 0, none⟩)]] w fun e w' => e = .returned (.tuple #[]) ∧ IsS22 w0 w' g s2_0 ∧ Kd.R (Kd.int .i64) 3 w' w0.heap.size (fun k_ => (P0_ k_ ∨ w.heap.size ≤ k_)) u9000_ r ∧ Below w0.heap.size w0 w' ∧ Kept w w' (fun k_ => (P0_ k_) ∨ k_ = g) := by
 have HO0 := Aside0.mk (show Kd.R (Kd.int .i64) 3 w w0.heap.size (fun k_ => (P0_ k_ ∨ w.heap.size ≤ k_)) u9000_ l0 from Kd.R_mono ho0 (fun k_ hk => (.inl hk)))
 have HI2 := Aside0.mk hI
 have HL := Aside0.mk hB.size
 clear hI
 have HK := Aside0.mk (Kept.refl w (fun k_ => (P0_ k_) ∨ k_ = g))
 have HW0 := Aside0.mk hB.size
 have HB := Aside0.mk hB
 clear hB
 have H : (slices_stableCmpFunc_int__split_ranked_1.l0 k l0 a1 20 0 20 s2_0) = some r := h
 clear h
 have H' := Aside0.mk H
 clear H
 go_enter Try.func49, Try.ntmps49
 go_wp2
 go_loopg [7, 8] k (fun kq v7 v8 w' => ∃ (x0_1 : List Int) (x7_1 : Int) (x8_1 : Int), v7 = .int .i64 x7_1 ∧ v8 = .int .i64 x8_1 ∧ Aside0 (slices_stableCmpFunc_int__split_ranked_1.l0 kq x0_1 a1 20 x7_1 x8_1 s2_0 = some r) ∧ Aside0 (kq ≤ k) ∧ Aside0 (Kd.R (Kd.int .i64) 3 w' w0.heap.size (fun k_ => (P0_ k_ ∨ w.heap.size ≤ k_)) u9000_ x0_1) ∧ Aside0 (IsS22 w0 w' g s2_0) ∧ Aside0 (Kept w w' (fun k_ => (P0_ k_) ∨ k_ = g)) ∧ Aside0 (Below w0.heap.size w0 w'))
 case atStart => exact ⟨(l0), (0), (20), (by first | rfl | (simp; done) | (simp [*]; done)), (by first | rfl | (simp; done) | (simp [*]; done)), H', ⟨Nat.le_refl _⟩, ⟨by (with_reducible repeat (first | apply Kd.R_alloc | apply Kd.R_drewN | apply Kd.R_drew)); exact HO0.out⟩, ⟨by repeat (first | (with_reducible first | exact HI2.out | apply IsS22.alloc | apply IsS22.drewN | apply IsS22.drew) | exact HI2.out)⟩, ⟨by repeat (first | (with_reducible first | exact HK.out | apply Kept.alloc | apply Kept.drewN | apply Kept.drew | refine Kept.setCell ?_ (.inl (.inr rfl)) _) | exact HK.out)⟩, ⟨by repeat (first | (with_reducible first | exact HB.out | apply below_alloc | apply pw_below_drewN | apply below_drew1 | refine below_set ?_ (IsS22.ge HI2.out)) | exact HB.out)⟩⟩
 case round =>
  clear H'
  try clear p2
  obtain ⟨x0_1, x7_1, x8_1, rfl, rfl, HA, HK1, HO_0, HI2, HK, HB⟩ := hrel
  cases gk with
  | zero => exact absurd HA.out (by simp [slices_stableCmpFunc_int__split_ranked_1.l0])
  | succ k1 =>
   have H := HA.out
   clear HA
   simp only [slices_stableCmpFunc_int__split_ranked_1.l0] at H
   by_cases c4 : x8_1 ≤ a1
   ·rw [if_pos c4] at H
    have c4b0 : decide (x8_1 ≤ a1) = true := decide_eq_true c4
    clear c4
    replace H := Option.bind_eq_some_iff.mp H
    obtain ⟨t125, A50, H⟩ := H
    replace H : (slices_stableCmpFunc_int__split_ranked_1.l0 k1 t125 a1 20 x8_1 (wrap64 (x8_1 + 20)) s2_0) = some r := H
    have A5 := Aside0.mk A50
    clear A50
    have H' := Aside0.mk H
    clear H
    obtain ⟨Ao6, co6, eo6⟩ := Kd.R_slice HO_0.out
    subst eo6
    go_wp2_with (first | ((with_reducible refine gate_callee (f := 50) rfl ?_); refine goesL_ (some 18) rfl rfl Try.func50 (by kernel_rfl) rfl #[.slice Ao6 x0_1.length co6, .int .i64 x7_1, .int .i64 x8_1, .func (.func 46) #[] #[.pointer (some ⟨g, 0, none⟩)]] rfl (by (try simp only [List.map_toArray, List.map_cons, List.map_nil]); first | done | rfl | (simp only [List.length_drop, List.length_take]; rfl)) ?_; (with_reducible refine (slices_insertionSortCmpFunc_int__split_ranked_1.calls k1 (fun k_ => some k_ = (.slice Ao6 x0_1.length co6 : Value).ownBlock) (.slice Ao6 x0_1.length co6) x0_1 x7_1 x8_1 g s2_0 t125 w0 _ ?side1 ?side2 ?side3 A5.out).mono ?_); (case side1 => repeat (first | (with_reducible first | exact HI2.out | apply IsS22.alloc | apply IsS22.drewN | apply IsS22.drew) | exact HI2.out)); (case side2 => repeat (first | (with_reducible first | exact HB.out | apply below_alloc | apply pw_below_drewN | apply below_drew1 | refine below_set ?_ (IsS22.ge HI2.out)) | exact HB.out)); (case side3 => exact Kd.R_tight rfl HO_0.out); rintro e w7 ⟨rfl, hi, hy0, hb, hkp⟩; refine ⟨_, rfl, ?_⟩; have n0_ := Aside0.mk (Kd.R_reok rfl hy0 (fun k_ e_ => HO_0.out.1 k_ e_)); have n1_ := Aside0.mk (hi); have n2_ := Aside0.mk (Kept.then_ (S := (fun k_ => (P0_ k_) ∨ k_ = g)) (by repeat (first | (with_reducible first | exact HK.out | apply Kept.alloc | apply Kept.drewN | apply Kept.drew | refine Kept.setCell ?_ (.inl (.inr rfl)) _) | exact HK.out)) hkp (fun k_ hs_ => Or.elim hs_ (fun hs_ => (fun e_ => Or.imp_left Or.inl ((HO_0.out.1 k_ e_.symm))) hs_) (fun e_ => .inl (.inr e_)))); have n3_ := Aside0.mk (hb); clear HO_0; clear HI2; clear HK; clear HB; have HO_0 := n0_; have HI2 := n1_; have HK := n2_; have HB := n3_; clear n0_ n1_ n2_ n3_; (try clear hb); (try clear hkp); (try clear hy0)))
    go_roundg k1
    case measure => have := HK1.out; omega
    case rel => exact ⟨(t125), (x8_1), (wrap64 (x8_1 + 20)), (by first | rfl | (simp; done) | (simp [*]; done)), (by first | rfl | (simp; done) | (simp [*]; done)), H', ⟨by have := HK1.out; omega⟩, ⟨by (with_reducible repeat (first | apply Kd.R_alloc | apply Kd.R_drewN | apply Kd.R_drew)); exact HO_0.out⟩, ⟨by repeat (first | (with_reducible first | exact HI2.out | apply IsS22.alloc | apply IsS22.drewN | apply IsS22.drew) | exact HI2.out)⟩, ⟨by repeat (first | (with_reducible first | exact HK.out | apply Kept.alloc | apply Kept.drewN | apply Kept.drew | refine Kept.setCell ?_ (.inl (.inr rfl)) _) | exact HK.out)⟩, ⟨by repeat (first | (with_reducible first | exact HB.out | apply below_alloc | apply pw_below_drewN | apply below_drew1 | refine below_set ?_ (IsS22.ge HI2.out)) | exact HB.out)⟩⟩
   ·rw [if_neg c4] at H
    have c4b0 : decide (x8_1 ≤ a1) = false := decide_eq_false c4
    clear c4
    replace H := Option.bind_eq_some_iff.mp H
    obtain ⟨t126, A80, H⟩ := H
    replace H : (slices_stableCmpFunc_int__split_ranked_1.l1 k1 t126 a1 20 s2_0) = some r := H
    have A8 := Aside0.mk A80
    clear A80
    have H' := Aside0.mk H
    clear H
    obtain ⟨Ao9, co9, eo9⟩ := Kd.R_slice HO_0.out
    subst eo9
    go_wp2_with (first | ((with_reducible refine gate_callee (f := 50) rfl ?_); refine goesL_ (some 27) rfl rfl Try.func50 (by kernel_rfl) rfl #[.slice Ao9 x0_1.length co9, .int .i64 x7_1, .int .i64 a1, .func (.func 46) #[] #[.pointer (some ⟨g, 0, none⟩)]] rfl (by (try simp only [List.map_toArray, List.map_cons, List.map_nil]); first | done | rfl | (simp only [List.length_drop, List.length_take]; rfl)) ?_; (with_reducible refine (slices_insertionSortCmpFunc_int__split_ranked_1.calls k1 (fun k_ => some k_ = (.slice Ao9 x0_1.length co9 : Value).ownBlock) (.slice Ao9 x0_1.length co9) x0_1 x7_1 a1 g s2_0 t126 w0 _ ?side1 ?side2 ?side3 A8.out).mono ?_); (case side1 => repeat (first | (with_reducible first | exact HI2.out | apply IsS22.alloc | apply IsS22.drewN | apply IsS22.drew) | exact HI2.out)); (case side2 => repeat (first | (with_reducible first | exact HB.out | apply below_alloc | apply pw_below_drewN | apply below_drew1 | refine below_set ?_ (IsS22.ge HI2.out)) | exact HB.out)); (case side3 => exact Kd.R_tight rfl HO_0.out); rintro e w10 ⟨rfl, hi, hy0, hb, hkp⟩; refine ⟨_, rfl, ?_⟩; have n0_ := Aside0.mk (Kd.R_reok rfl hy0 (fun k_ e_ => HO_0.out.1 k_ e_)); have n1_ := Aside0.mk (hi); have n2_ := Aside0.mk (Kept.then_ (S := (fun k_ => (P0_ k_) ∨ k_ = g)) (by repeat (first | (with_reducible first | exact HK.out | apply Kept.alloc | apply Kept.drewN | apply Kept.drew | refine Kept.setCell ?_ (.inl (.inr rfl)) _) | exact HK.out)) hkp (fun k_ hs_ => Or.elim hs_ (fun hs_ => (fun e_ => Or.imp_left Or.inl ((HO_0.out.1 k_ e_.symm))) hs_) (fun e_ => .inl (.inr e_)))); have n3_ := Aside0.mk (hb); clear HO_0; clear HI2; clear HK; clear HB; have HO_0 := n0_; have HI2 := n1_; have HK := n2_; have HB := n3_; clear n0_ n1_ n2_ n3_; (try clear hb); (try clear hkp); (try clear hy0)))
    (try simp only [Act.put, List.setIfInBounds_toArray, List.set_cons_zero, List.set_cons_succ])
    go_loopg [6] k1 (fun kq v6 w' => ∃ (x0_2 : List Int) (x6_2 : Int), v6 = .int .i64 x6_2 ∧ Aside0 (slices_stableCmpFunc_int__split_ranked_1.l1 kq x0_2 a1 x6_2 s2_0 = some r) ∧ Aside0 (kq ≤ k1) ∧ Aside0 (Kd.R (Kd.int .i64) 3 w' w0.heap.size (fun k_ => (P0_ k_ ∨ w.heap.size ≤ k_)) (.slice Ao9 x0_1.length co9) x0_2) ∧ Aside0 (IsS22 w0 w' g s2_0) ∧ Aside0 (Kept w w' (fun k_ => (P0_ k_) ∨ k_ = g)) ∧ Aside0 (Below w0.heap.size w0 w'))
    case atStart => exact ⟨(t126), (20), (by first | rfl | (simp; done) | (simp [*]; done)), H', ⟨Nat.le_refl _⟩, ⟨by (with_reducible repeat (first | apply Kd.R_alloc | apply Kd.R_drewN | apply Kd.R_drew)); exact HO_0.out⟩, ⟨by repeat (first | (with_reducible first | exact HI2.out | apply IsS22.alloc | apply IsS22.drewN | apply IsS22.drew) | exact HI2.out)⟩, ⟨by repeat (first | (with_reducible first | exact HK.out | apply Kept.alloc | apply Kept.drewN | apply Kept.drew | refine Kept.setCell ?_ (.inl (.inr rfl)) _) | exact HK.out)⟩, ⟨by repeat (first | (with_reducible first | exact HB.out | apply below_alloc | apply pw_below_drewN | apply below_drew1 | refine below_set ?_ (IsS22.ge HI2.out)) | exact HB.out)⟩⟩
    case round =>
     clear H'
     try clear p2
     try clear c4
     try clear c4b0
     try clear c5
     try clear p6
     try clear p2
     obtain ⟨x0_2, x6_2, rfl, HA, HK2, HO_0, HI2, HK, HB⟩ := hrel
     have hl0_2 := (Kd.R_reads' HO_0.out).1
     rw [hl0_2] at HO_0
     (try simp only [hl0_2])
     cases gk with
     | zero => exact absurd HA.out (by simp [slices_stableCmpFunc_int__split_ranked_1.l1])
     | succ k2 =>
      have H := HA.out
      clear HA
      simp only [slices_stableCmpFunc_int__split_ranked_1.l1] at H
      by_cases c11 : x6_2 < a1
      ·rw [if_pos c11] at H
       have c11b0 : decide (x6_2 < a1) = true := decide_eq_true c11
       clear c11
       have H' := Aside0.mk H
       clear H
       go_wp2
       go_loopg [7, 8] k2 (fun kq v7 v8 w' => ∃ (x0_3 : List Int) (x7_3 : Int) (x8_3 : Int), v7 = .int .i64 x7_3 ∧ v8 = .int .i64 x8_3 ∧ Aside0 (slices_stableCmpFunc_int__split_ranked_1.l2 kq x0_3 a1 x6_2 x7_3 x8_3 s2_0 = some r) ∧ Aside0 (kq ≤ k2) ∧ Aside0 (Kd.R (Kd.int .i64) 3 w' w0.heap.size (fun k_ => (P0_ k_ ∨ w.heap.size ≤ k_)) (.slice Ao9 x0_2.length co9) x0_3) ∧ Aside0 (IsS22 w0 w' g s2_0) ∧ Aside0 (Kept w w' (fun k_ => (P0_ k_) ∨ k_ = g)) ∧ Aside0 (Below w0.heap.size w0 w'))
       case atStart => exact ⟨(x0_2), (0), (wrap64 (2 * x6_2)), (by first | rfl | (simp; done) | (simp [*]; done)), (by first | rfl | (simp; done) | (simp [*]; done)), H', ⟨Nat.le_refl _⟩, ⟨by (try simp only [hl0_2]); (with_reducible repeat (first | apply Kd.R_alloc | apply Kd.R_drewN | apply Kd.R_drew)); exact HO_0.out⟩, ⟨by repeat (first | (with_reducible first | exact HI2.out | apply IsS22.alloc | apply IsS22.drewN | apply IsS22.drew) | exact HI2.out)⟩, ⟨by repeat (first | (with_reducible first | exact HK.out | apply Kept.alloc | apply Kept.drewN | apply Kept.drew | refine Kept.setCell ?_ (.inl (.inr rfl)) _) | exact HK.out)⟩, ⟨by repeat (first | (with_reducible first | exact HB.out | apply below_alloc | apply pw_below_drewN | apply below_drew1 | refine below_set ?_ (IsS22.ge HI2.out)) | exact HB.out)⟩⟩
       case round =>
        clear H'
        try clear c1
        try clear p2
        try clear c4
        try clear c4b0
        try clear c5
        try clear p6
        try clear c11
        try clear c11b0
        try clear p2
        try clear p6
        obtain ⟨x0_3, x7_3, x8_3, rfl, rfl, HA, HK3, HO_0, HI2, HK, HB⟩ := hrel
        have hl0_3 := (Kd.R_reads' HO_0.out).1
        rw [hl0_3] at HO_0
        (try simp only [hl0_3])
        cases gk with
        | zero => exact absurd HA.out (by simp [slices_stableCmpFunc_int__split_ranked_1.l2])
        | succ k3 =>
         have H := HA.out
         clear HA
         simp only [slices_stableCmpFunc_int__split_ranked_1.l2] at H
         by_cases c12 : x8_3 ≤ a1
         ·rw [if_pos c12] at H
          have c12b0 : decide (x8_3 ≤ a1) = true := decide_eq_true c12
          clear c12
          replace H := Option.bind_eq_some_iff.mp H
          obtain ⟨t127, A130, H⟩ := H
          replace H : (slices_stableCmpFunc_int__split_ranked_1.l2 k3 t127 a1 x6_2 x8_3 (wrap64 (x8_3 + (wrap64 (2 * x6_2)))) s2_0) = some r := H
          have A13 := Aside0.mk A130
          clear A130
          have H' := Aside0.mk H
          clear H
          go_wp2_with (first | ((with_reducible refine gate_callee (f := 51) rfl ?_); refine goesL_ (some 43) rfl rfl Try.func51 (by kernel_rfl) rfl #[.slice Ao9 x0_3.length co9, .int .i64 x7_3, .int .i64 (wrap64 (x7_3 + x6_2)), .int .i64 x8_3, .func (.func 46) #[] #[.pointer (some ⟨g, 0, none⟩)]] rfl (by (try simp only [List.map_toArray, List.map_cons, List.map_nil]); first | done | rfl | (simp only [List.length_drop, List.length_take]; rfl)) ?_; (with_reducible refine (slices_symMergeCmpFunc_int__split_ranked_1.calls k3 (fun k_ => some k_ = (.slice Ao9 x0_3.length co9 : Value).ownBlock) (.slice Ao9 x0_3.length co9) x0_3 x7_3 (wrap64 (x7_3 + x6_2)) x8_3 g s2_0 t127 w0 _ ?side1 ?side2 ?side3 A13.out).mono ?_); (case side1 => repeat (first | (with_reducible first | exact HI2.out | apply IsS22.alloc | apply IsS22.drewN | apply IsS22.drew) | exact HI2.out)); (case side2 => repeat (first | (with_reducible first | exact HB.out | apply below_alloc | apply pw_below_drewN | apply below_drew1 | refine below_set ?_ (IsS22.ge HI2.out)) | exact HB.out)); (case side3 => exact Kd.R_tight rfl HO_0.out); rintro e w14 ⟨rfl, hi, hy0, hb, hkp⟩; refine ⟨_, rfl, ?_⟩; have n0_ := Aside0.mk (Kd.R_reok rfl hy0 (fun k_ e_ => HO_0.out.1 k_ e_)); have n1_ := Aside0.mk (hi); have n2_ := Aside0.mk (Kept.then_ (S := (fun k_ => (P0_ k_) ∨ k_ = g)) (by repeat (first | (with_reducible first | exact HK.out | apply Kept.alloc | apply Kept.drewN | apply Kept.drew | refine Kept.setCell ?_ (.inl (.inr rfl)) _) | exact HK.out)) hkp (fun k_ hs_ => Or.elim hs_ (fun hs_ => (fun e_ => Or.imp_left Or.inl ((HO_0.out.1 k_ e_.symm))) hs_) (fun e_ => .inl (.inr e_)))); have n3_ := Aside0.mk (hb); clear HO_0; clear HI2; clear HK; clear HB; have HO_0 := n0_; have HI2 := n1_; have HK := n2_; have HB := n3_; clear n0_ n1_ n2_ n3_; (try clear hb); (try clear hkp); (try clear hy0)))
          (try simp only [← hl0_3])
          go_roundg k3
          case measure => have := HK1.out; have := HK2.out; have := HK3.out; omega
          case rel => exact ⟨(t127), (x8_3), (wrap64 (x8_3 + (wrap64 (2 * x6_2)))), (by first | rfl | (simp; done) | (simp [*]; done)), (by first | rfl | (simp; done) | (simp [*]; done)), H', ⟨by have := HK1.out; have := HK2.out; have := HK3.out; omega⟩, ⟨by (try simp only [hl0_2]); (try simp only [hl0_3]); (with_reducible repeat (first | apply Kd.R_alloc | apply Kd.R_drewN | apply Kd.R_drew)); exact HO_0.out⟩, ⟨by repeat (first | (with_reducible first | exact HI2.out | apply IsS22.alloc | apply IsS22.drewN | apply IsS22.drew) | exact HI2.out)⟩, ⟨by repeat (first | (with_reducible first | exact HK.out | apply Kept.alloc | apply Kept.drewN | apply Kept.drew | refine Kept.setCell ?_ (.inl (.inr rfl)) _) | exact HK.out)⟩, ⟨by repeat (first | (with_reducible first | exact HB.out | apply below_alloc | apply pw_below_drewN | apply below_drew1 | refine below_set ?_ (IsS22.ge HI2.out)) | exact HB.out)⟩⟩
         ·rw [if_neg c12] at H
          have c12b0 : decide (x8_3 ≤ a1) = false := decide_eq_false c12
          clear c12
          by_cases c15 : (wrap64 (x7_3 + x6_2)) < a1
          ·rw [if_pos c15] at H
           have c15b0 : decide ((wrap64 (x7_3 + x6_2)) < a1) = true := decide_eq_true c15
           clear c15
           replace H := Option.bind_eq_some_iff.mp H
           obtain ⟨t128, A160, H⟩ := H
           replace H : (slices_stableCmpFunc_int__split_ranked_1.l1 k3 t128 a1 (wrap64 (x6_2 * 2)) s2_0) = some r := H
           have A16 := Aside0.mk A160
           clear A160
           have H' := Aside0.mk H
           clear H
           go_wp2_with (first | ((with_reducible refine gate_callee (f := 51) rfl ?_); refine goesL_ (some 60) rfl rfl Try.func51 (by kernel_rfl) rfl #[.slice Ao9 x0_3.length co9, .int .i64 x7_3, .int .i64 (wrap64 (x7_3 + x6_2)), .int .i64 a1, .func (.func 46) #[] #[.pointer (some ⟨g, 0, none⟩)]] rfl (by (try simp only [List.map_toArray, List.map_cons, List.map_nil]); first | done | rfl | (simp only [List.length_drop, List.length_take]; rfl)) ?_; (with_reducible refine (slices_symMergeCmpFunc_int__split_ranked_1.calls k3 (fun k_ => some k_ = (.slice Ao9 x0_3.length co9 : Value).ownBlock) (.slice Ao9 x0_3.length co9) x0_3 x7_3 (wrap64 (x7_3 + x6_2)) a1 g s2_0 t128 w0 _ ?side1 ?side2 ?side3 A16.out).mono ?_); (case side1 => repeat (first | (with_reducible first | exact HI2.out | apply IsS22.alloc | apply IsS22.drewN | apply IsS22.drew) | exact HI2.out)); (case side2 => repeat (first | (with_reducible first | exact HB.out | apply below_alloc | apply pw_below_drewN | apply below_drew1 | refine below_set ?_ (IsS22.ge HI2.out)) | exact HB.out)); (case side3 => exact Kd.R_tight rfl HO_0.out); rintro e w17 ⟨rfl, hi, hy0, hb, hkp⟩; refine ⟨_, rfl, ?_⟩; have n0_ := Aside0.mk (Kd.R_reok rfl hy0 (fun k_ e_ => HO_0.out.1 k_ e_)); have n1_ := Aside0.mk (hi); have n2_ := Aside0.mk (Kept.then_ (S := (fun k_ => (P0_ k_) ∨ k_ = g)) (by repeat (first | (with_reducible first | exact HK.out | apply Kept.alloc | apply Kept.drewN | apply Kept.drew | refine Kept.setCell ?_ (.inl (.inr rfl)) _) | exact HK.out)) hkp (fun k_ hs_ => Or.elim hs_ (fun hs_ => (fun e_ => Or.imp_left Or.inl ((HO_0.out.1 k_ e_.symm))) hs_) (fun e_ => .inl (.inr e_)))); have n3_ := Aside0.mk (hb); clear HO_0; clear HI2; clear HK; clear HB; have HO_0 := n0_; have HI2 := n1_; have HK := n2_; have HB := n3_; clear n0_ n1_ n2_ n3_; (try clear hb); (try clear hkp); (try clear hy0)))
           (try simp only [← hl0_2, ← hl0_3])
           go_roundg k3
           case measure => have := HK1.out; have := HK2.out; have := HK3.out; omega
           case rel => exact ⟨(t128), (wrap64 (x6_2 * 2)), (by first | rfl | (simp; done) | (simp [*]; done)), H', ⟨by have := HK1.out; have := HK2.out; have := HK3.out; omega⟩, ⟨by (try simp only [hl0_2]); (try simp only [hl0_3]); (with_reducible repeat (first | apply Kd.R_alloc | apply Kd.R_drewN | apply Kd.R_drew)); exact HO_0.out⟩, ⟨by repeat (first | (with_reducible first | exact HI2.out | apply IsS22.alloc | apply IsS22.drewN | apply IsS22.drew) | exact HI2.out)⟩, ⟨by repeat (first | (with_reducible first | exact HK.out | apply Kept.alloc | apply Kept.drewN | apply Kept.drew | refine Kept.setCell ?_ (.inl (.inr rfl)) _) | exact HK.out)⟩, ⟨by repeat (first | (with_reducible first | exact HB.out | apply below_alloc | apply pw_below_drewN | apply below_drew1 | refine below_set ?_ (IsS22.ge HI2.out)) | exact HB.out)⟩⟩
          ·rw [if_neg c15] at H
           have c15b0 : decide ((wrap64 (x7_3 + x6_2)) < a1) = false := decide_eq_false c15
           clear c15
           have H' := Aside0.mk H
           clear H
           go_wp2
           (try simp only [← hl0_2, ← hl0_3])
           go_roundg k3
           case measure => have := HK1.out; have := HK2.out; have := HK3.out; omega
           case rel => exact ⟨(x0_3), (wrap64 (x6_2 * 2)), (by first | rfl | (simp; done) | (simp [*]; done)), H', ⟨by have := HK1.out; have := HK2.out; have := HK3.out; omega⟩, ⟨by (try simp only [hl0_2]); (try simp only [hl0_3]); (with_reducible repeat (first | apply Kd.R_alloc | apply Kd.R_drewN | apply Kd.R_drew)); exact HO_0.out⟩, ⟨by repeat (first | (with_reducible first | exact HI2.out | apply IsS22.alloc | apply IsS22.drewN | apply IsS22.drew) | exact HI2.out)⟩, ⟨by repeat (first | (with_reducible first | exact HK.out | apply Kept.alloc | apply Kept.drewN | apply Kept.drew | refine Kept.setCell ?_ (.inl (.inr rfl)) _) | exact HK.out)⟩, ⟨by repeat (first | (with_reducible first | exact HB.out | apply below_alloc | apply pw_below_drewN | apply below_drew1 | refine below_set ?_ (IsS22.ge HI2.out)) | exact HB.out)⟩⟩
      ·rw [if_neg c11] at H
       have c11b0 : decide (x6_2 < a1) = false := decide_eq_false c11
       clear c11
       obtain rfl := Option.some.inj H
       go_wp2
       first | go_end0 | ((try simp only [Exit.inBlock, Exit.then]); refine bodyPost_ret (results_none rfl _ _ _) rfl ?_)
       exact ⟨by first | rfl | (simp [errW_none, errW_some] <;> rfl) | (simp [*, errW_none, errW_some] <;> rfl), by repeat (first | (with_reducible first | exact HI2.out | apply IsS22.alloc | apply IsS22.drewN | apply IsS22.drew) | exact HI2.out), (by first | exact (by (with_reducible repeat (first | apply Kd.R_alloc | apply Kd.R_drewN | apply Kd.R_drew)); exact HO_0.out) | (simp only [hl0_2]; exact (by (with_reducible repeat (first | apply Kd.R_alloc | apply Kd.R_drewN | apply Kd.R_drew)); exact HO_0.out))), by repeat (first | (with_reducible first | exact HB.out | apply below_alloc | apply pw_below_drewN | apply below_drew1 | refine below_set ?_ (IsS22.ge HI2.out)) | exact HB.out), by repeat (first | (with_reducible first | exact HK.out | apply Kept.alloc | apply Kept.drewN | apply Kept.drew | refine Kept.setCell ?_ (.inl (.inr rfl)) _) | exact HK.out)⟩

end Go.Proofs.Ytikglhfeookhaaa.M
end
section
/- The stable sort of the standard library, on what the walks say that it computes: a sorted permutation. -/
namespace Go.Proofs.Ytikglhfeookhaaa.M
open Go.RowKit Go.Proofs.YtikglhfeookhaaaW.PrintWords
set_option linter.unusedVariables false
theorem slices_swapRangeCmpFunc_int__split_ranked_1.swap (s : List Int) (b0 n : Int) : ∀ (A B P M S : List Int) (a i : Int), A.length = B.length → a + i = (P.length : Int) → b0 + i = (P.length : Int) + A.length + M.length → n = i + A.length → 0 ≤ a → 0 ≤ i → (P ++ A ++ M ++ B ++ S).length < 1000000 →
    Ev (fun k => slices_swapRangeCmpFunc_int__split_ranked_1.l0 k (P ++ A ++ M ++ B ++ S) a b0 n i) (P ++ B ++ M ++ A ++ S)
  | [], B, P, M, S, a, i, hl, ha, hb, hn, _, _, _ => by
    obtain rfl : B = [] := List.eq_nil_of_length_eq_zero hl.symm
    refine Ev.succ ?_
    have h : ¬ i < n := by simp at hn; omega
    simp only [slices_swapRangeCmpFunc_int__split_ranked_1.l0, if_neg h]
    exact Ev.const _
  | u :: A, B, P, M, S, a, i, hl, ha, hb, hn, h0, h1, hs => by
    obtain ⟨v, B, rfl⟩ : ∃ v B', B = v :: B' := by
      cases B with
      | nil => simp at hl
      | cons v B => exact ⟨v, B, rfl⟩
    simp only [List.length_cons] at hl hn hb
    simp only [List.length_append, List.length_cons] at hs
    have ih := slices_swapRangeCmpFunc_int__split_ranked_1.swap s b0 n A B (P ++ [v]) (M ++ [u]) S a (i + 1) (by omega) (by simp; omega) (by simp; omega) (by omega) h0 (by omega) (by simp only [List.length_append, List.length_cons, List.length_nil]; omega)
    refine Ev.succ ?_
    have e1 : wrap64 (a + i) = a + i := w64 (by omega) (by omega)
    have e2 : wrap64 (b0 + i) = b0 + i := w64 (by omega) (by omega)
    have e3 : wrap64 (i + 1) = i + 1 := w64 (by omega) (by omega)
    have r1 : rd (P ++ u :: A ++ M ++ v :: B ++ S) (a + i) = u := by
      rw [show P ++ u :: A ++ M ++ v :: B ++ S = P ++ u :: (A ++ M ++ v :: B ++ S) by simp]; exact rd_at _ _ _ _ ha
    have r2 : rd (P ++ u :: A ++ M ++ v :: B ++ S) (b0 + i) = v := by
      rw [show P ++ u :: A ++ M ++ v :: B ++ S = (P ++ u :: A ++ M) ++ v :: (B ++ S) by simp]; exact rd_at _ _ _ _ (by simp; omega)
    have s1 : (P ++ u :: A ++ M ++ v :: B ++ S).set (a + i).toNat v = P ++ v :: A ++ M ++ v :: B ++ S := by
      rw [show P ++ u :: A ++ M ++ v :: B ++ S = P ++ u :: (A ++ M ++ v :: B ++ S) by simp, set_at _ _ _ _ _ ha]; simp
    have s2 : (P ++ v :: A ++ M ++ v :: B ++ S).set (b0 + i).toNat u = P ++ v :: A ++ M ++ u :: B ++ S := by
      rw [show P ++ v :: A ++ M ++ v :: B ++ S = (P ++ v :: A ++ M) ++ v :: (B ++ S) by simp, set_at _ _ _ _ _ (by simp; omega)]; simp
    have hlen : ((P ++ u :: A ++ M ++ v :: B ++ S).length : Int) = P.length + A.length + M.length + B.length + S.length + 2 := by simp; omega
    have g0 : i < n := by omega
    have g1 : 0 ≤ b0 + i := by omega
    have g2 : b0 + i < ((P ++ u :: A ++ M ++ v :: B ++ S).length : Int) := by omega
    have g3 : 0 ≤ a + i := by omega
    have g4 : a + i < ((P ++ u :: A ++ M ++ v :: B ++ S).length : Int) := by omega
    simp only [slices_swapRangeCmpFunc_int__split_ranked_1.l0, e1, e2, e3, if_pos g0, if_pos g1, if_pos g2, if_pos g3, if_pos g4, r1, r2, s1, s2]
    rw [show P ++ v :: A ++ M ++ u :: B ++ S = (P ++ [v]) ++ A ++ (M ++ [u]) ++ B ++ S by simp, show P ++ v :: B ++ M ++ u :: A ++ S = (P ++ [v]) ++ B ++ (M ++ [u]) ++ A ++ S by simp]
    exact ih
theorem slices_swapRangeCmpFunc_int__split_ranked_1.f_swap (s A B P M S : List Int) (a b n : Int) (hl : A.length = B.length) (ha : a = (P.length : Int)) (hb : b = (P.length : Int) + A.length + M.length) (hn : n = A.length) (hs : (P ++ A ++ M ++ B ++ S).length < 1000000) :
    Ev (fun k => slices_swapRangeCmpFunc_int__split_ranked_1.f k (P ++ A ++ M ++ B ++ S) a b n s) (P ++ B ++ M ++ A ++ S) :=
  slices_swapRangeCmpFunc_int__split_ranked_1.swap s b n A B P M S a 0 hl (by omega) (by omega) (by omega) (by omega) (by omega) hs
theorem slices_rotateCmpFunc_int__split_ranked_1.rot (s : List Int) : ∀ (N : Nat) (P A B S : List Int) (m i j : Int), A.length + B.length ≤ N → 0 < A.length → 0 < B.length → i = A.length → j = B.length → m = (P.length : Int) + A.length → (P ++ A ++ B ++ S).length < 1000000 →
    Ev (fun k => slices_rotateCmpFunc_int__split_ranked_1.l0 k (P ++ A ++ B ++ S) m i j s) (P ++ B ++ A ++ S)
  | 0, P, A, B, S, m, i, j, hN, hA, hB, _, _, _, _ => by omega
  | N + 1, P, A, B, S, m, i, j, hN, hA, hB, hi, hj, hm, hs => by
    refine Ev.succ ?_
    have hs' : P.length + A.length + B.length + S.length < 1000000 := by simpa [Nat.add_assoc] using hs
    have e1 : wrap64 (m - i) = m - i := w64 (by omega) (by omega)
    by_cases h1 : i = j
    · simp only [slices_rotateCmpFunc_int__split_ranked_1.l0, if_pos h1, e1]
      have h := slices_swapRangeCmpFunc_int__split_ranked_1.f_swap s A B P [] S (m - i) m i (by omega) (by omega) (by simp; omega) (by omega) (by simp; omega)
      simp only [List.append_nil] at h
      exact Ev.bind h (Ev.const _)
    · by_cases h2 : i > j
      · simp only [slices_rotateCmpFunc_int__split_ranked_1.l0, if_neg h1, if_pos h2, e1]
        obtain ⟨A1, A2, rfl, l1, l2⟩ := split_at A B.length (by omega)
        simp only [List.length_append] at *
        have h := slices_swapRangeCmpFunc_int__split_ranked_1.f_swap s A1 B P A2 S (m - i) m j (by omega) (by omega) (by omega) (by omega) (by simp; omega)
        have ih := slices_rotateCmpFunc_int__split_ranked_1.rot s N (P ++ B) A2 A1 S m (i - j) j (by omega) (by omega) (by omega) (by omega) (by omega) (by simp; omega) (by simp; omega)
        have e2 : wrap64 (i - j) = i - j := w64 (by omega) (by omega)
        rw [e2]
        refine Ev.bind (a := P ++ B ++ A2 ++ A1 ++ S) ?_ ?_
        · simpa [List.append_assoc] using h
        · simpa [List.append_assoc] using ih
      · simp only [slices_rotateCmpFunc_int__split_ranked_1.l0, if_neg h1, if_neg h2, e1]
        obtain ⟨B1, B2, rfl, l1, l2⟩ := split_at B (B.length - A.length) (by omega)
        simp only [List.length_append] at *
        have e2 : wrap64 (wrap64 (m + j) - i) = m + j - i := by rw [w64 (n := m + j) (by omega) (by omega)]; exact w64 (by omega) (by omega)
        have e3 : wrap64 (j - i) = j - i := w64 (by omega) (by omega)
        have h := slices_swapRangeCmpFunc_int__split_ranked_1.f_swap s A B2 P B1 S (m - i) (m + j - i) i (by omega) (by omega) (by omega) (by omega) (by simp; omega)
        have ih := slices_rotateCmpFunc_int__split_ranked_1.rot s N P B2 B1 (A ++ S) m i (j - i) (by omega) (by omega) (by omega) (by omega) (by omega) (by omega) (by simp; omega)
        rw [e2, e3]
        refine Ev.bind (a := P ++ B2 ++ B1 ++ A ++ S) ?_ ?_
        · simpa [List.append_assoc] using h
        · simpa [List.append_assoc] using ih
theorem slices_rotateCmpFunc_int__split_ranked_1.f_rot (s P A B S : List Int) (a m b : Int) (hA : 0 < A.length) (hB : 0 < B.length) (ha : a = P.length) (hm : m = (P.length : Int) + A.length) (hb : b = (P.length : Int) + A.length + B.length) (hs : (P ++ A ++ B ++ S).length < 1000000) :
    Ev (fun k => slices_rotateCmpFunc_int__split_ranked_1.f k (P ++ A ++ B ++ S) a m b s) (P ++ B ++ A ++ S) := by
  have hs' : P.length + A.length + B.length + S.length < 1000000 := by simpa [Nat.add_assoc] using hs
  have e1 : wrap64 (m - a) = m - a := w64 (by omega) (by omega)
  have e2 : wrap64 (b - m) = b - m := w64 (by omega) (by omega)
  simp only [slices_rotateCmpFunc_int__split_ranked_1.f, e1, e2]
  exact slices_rotateCmpFunc_int__split_ranked_1.rot s _ P A B S m (m - a) (b - m) (Nat.le_refl _) hA hB (by omega) (by omega) hm hs
/-- A strict total order. -/
structure Tot (lt : Int → Int → Prop) : Prop where
  trans : ∀ x y z, lt x y → lt y z → lt x z
  tot : ∀ x y, x ≠ y → lt x y ∨ lt y x
  irr : ∀ x, ¬ lt x x
theorem Tot.asym {lt : Int → Int → Prop} (o : Tot lt) {x y : Int} (h : lt x y) : ¬ lt y x := fun k => o.irr x (o.trans _ _ _ h k)
/-- The comparison of a later one with an earlier one is the order's. -/
def Cm (s : List Int) (lt : Int → Int → Prop) (x y : Int) : Prop := x ≠ y ∧ ∃ v, split_ranked_1.f y x s = some v ∧ (v < 0 ↔ lt y x)
theorem slices_insertionSortCmpFunc_int__split_ranked_1.in1 (s : List Int) (lt : Int → Int → Prop) (o : Tot lt) (a b i : Int) (u : Int) (P T : List Int) (ha : a = (P.length : Int)) : ∀ (N : Nat) (L1 L2 : List Int) (j : Int), L1.length = N → j = a + N → (∀ y ∈ L1, Cm s lt y u) → (L1 ++ L2).Pairwise lt → (∀ y ∈ L2, lt u y) → (P ++ (L1 ++ u :: L2) ++ T).length < 1000000 →
    ∃ L', L'.Perm (L1 ++ u :: L2) ∧ L'.Pairwise lt ∧ ∀ r, Ev (fun k => slices_insertionSortCmpFunc_int__split_ranked_1.l0 k (P ++ L' ++ T) a b (wrap64 (i + 1)) s) r → Ev (fun k => slices_insertionSortCmpFunc_int__split_ranked_1.l1 k (P ++ (L1 ++ u :: L2) ++ T) a b i j s) r
  | 0, L1, L2, j, hN, hj, hc, hp, hu, hs => by
    obtain rfl : L1 = [] := List.eq_nil_of_length_eq_zero hN
    refine ⟨u :: L2, List.Perm.refl _, List.pairwise_cons.2 ⟨hu, by simpa using hp⟩, fun r h => Ev.succ ?_⟩
    have g : ¬ j > a := by simp at hj; omega
    simp only [slices_insertionSortCmpFunc_int__split_ranked_1.l1, if_neg g]
    exact h
  | N + 1, L1, L2, j, hN, hj, hc, hp, hu, hs => by
    obtain ⟨L1, y, rfl⟩ : ∃ L y, L1 = L ++ [y] := by
      have hne : L1 ≠ [] := by intro h; rw [h] at hN; simp at hN
      exact ⟨L1.dropLast, L1.getLast hne, (List.dropLast_concat_getLast hne).symm⟩
    have hN' : L1.length = N := by simpa using hN
    have hs' : P.length + L1.length + L2.length + T.length + 2 < 1000000 := by simp only [List.length_append, List.length_cons, List.length_nil] at hs; omega
    obtain ⟨hne, v, hv, hvl⟩ := hc y (by simp)
    have e1 : wrap64 (j - 1) = j - 1 := w64 (by omega) (by omega)
    have r1 : rd (P ++ (L1 ++ [y] ++ u :: L2) ++ T) j = u := by
      rw [show P ++ (L1 ++ [y] ++ u :: L2) ++ T = (P ++ L1 ++ [y]) ++ u :: (L2 ++ T) by simp]; exact rd_at _ _ _ _ (by simp; omega)
    have r2 : rd (P ++ (L1 ++ [y] ++ u :: L2) ++ T) (j - 1) = y := by
      rw [show P ++ (L1 ++ [y] ++ u :: L2) ++ T = (P ++ L1) ++ y :: (u :: L2 ++ T) by simp]; exact rd_at _ _ _ _ (by simp; omega)
    have s1 : (P ++ (L1 ++ [y] ++ u :: L2) ++ T).set j.toNat y = P ++ (L1 ++ [y] ++ y :: L2) ++ T := by
      rw [show P ++ (L1 ++ [y] ++ u :: L2) ++ T = (P ++ L1 ++ [y]) ++ u :: (L2 ++ T) by simp, set_at _ _ _ _ _ (by simp; omega)]; simp
    have s2 : (P ++ (L1 ++ [y] ++ y :: L2) ++ T).set (j - 1).toNat u = P ++ (L1 ++ u :: (y :: L2)) ++ T := by
      rw [show P ++ (L1 ++ [y] ++ y :: L2) ++ T = (P ++ L1) ++ y :: (y :: L2 ++ T) by simp, set_at _ _ _ _ _ (by simp; omega)]; simp
    have hlen : ((P ++ (L1 ++ [y] ++ u :: L2) ++ T).length : Int) = P.length + L1.length + L2.length + T.length + 2 := by simp; omega
    have g0 : j > a := by omega
    have g1 : 0 ≤ j := by omega
    have g2 : j < ((P ++ (L1 ++ [y] ++ u :: L2) ++ T).length : Int) := by omega
    have g3 : 0 ≤ j - 1 := by omega
    have g4 : j - 1 < ((P ++ (L1 ++ [y] ++ u :: L2) ++ T).length : Int) := by omega
    by_cases hlt : lt u y
    · obtain ⟨L', q1, q2, q3⟩ := slices_insertionSortCmpFunc_int__split_ranked_1.in1 s lt o a b i u P T ha N L1 (y :: L2) (j - 1) hN' (by omega) (fun z hz => hc z (by simp [hz])) (by simpa using hp) (fun z hz => by
        rcases List.mem_cons.1 hz with rfl | hz
        · exact hlt
        · exact hu z hz) (by simp only [List.length_append, List.length_cons]; omega)
      refine ⟨L', q1.trans ?_, q2, fun r h => Ev.succ ?_⟩
      · rw [List.append_assoc]
        exact List.Perm.append_left L1 (List.Perm.swap y u L2)
      · have hv0 : v < 0 := hvl.2 hlt
        simp only [slices_insertionSortCmpFunc_int__split_ranked_1.l1, if_pos g0, e1, if_pos g1, if_pos g2, if_pos g3, if_pos g4, r1, r2, hv, Option.bind_some, if_pos hv0, s1, s2]
        exact q3 r h
    · have hv0 : ¬ v < 0 := fun k => hlt (hvl.1 k)
      have hyu : lt y u := (o.tot y u hne).resolve_right hlt
      refine ⟨L1 ++ [y] ++ u :: L2, List.Perm.refl _, ?_, fun r h => Ev.succ ?_⟩
      · obtain ⟨p1, p2, p3⟩ := List.pairwise_append.1 hp
        refine List.pairwise_append.2 ⟨p1, List.pairwise_cons.2 ⟨hu, p2⟩, fun z hz w hw => ?_⟩
        rcases List.mem_cons.1 hw with rfl | hw
        · rcases List.mem_append.1 hz with hz1 | hz1
          · exact o.trans _ _ _ ((List.pairwise_append.1 p1).2.2 z hz1 y (by simp)) hyu
          · rw [List.mem_singleton.1 hz1]; exact hyu
        · exact p3 z hz w hw
      · simp only [slices_insertionSortCmpFunc_int__split_ranked_1.l1, if_pos g0, e1, if_pos g1, if_pos g2, if_pos g3, if_pos g4, r1, r2, hv, Option.bind_some, if_neg hv0]
        exact h
theorem slices_insertionSortCmpFunc_int__split_ranked_1.out (s : List Int) (lt : Int → Int → Prop) (o : Tot lt) (a b : Int) (P T : List Int) (ha : a = (P.length : Int)) : ∀ (R L : List Int) (i : Int), i = a + L.length → b = i + R.length → L.Pairwise lt → (∀ x ∈ L, ∀ y ∈ R, Cm s lt x y) → R.Pairwise (Cm s lt) → (P ++ (L ++ R) ++ T).length < 1000000 →
    ∃ M, M.Perm (L ++ R) ∧ M.Pairwise lt ∧ Ev (fun k => slices_insertionSortCmpFunc_int__split_ranked_1.l0 k (P ++ (L ++ R) ++ T) a b i s) (P ++ M ++ T)
  | [], L, i, hi, hb, hp, _, _, _ => by
    refine ⟨L, by simp, hp, Ev.succ ?_⟩
    have g : ¬ i < b := by simp at hb; omega
    simp only [slices_insertionSortCmpFunc_int__split_ranked_1.l0, if_neg g, List.append_nil]
    exact Ev.const _
  | u :: R, L, i, hi, hb, hp, hc, hr, hs => by
    have hs' : P.length + L.length + R.length + T.length + 1 < 1000000 := by simp only [List.length_append, List.length_cons] at hs; omega
    simp only [List.length_cons] at hb
    obtain ⟨L', q1, q2, q3⟩ := slices_insertionSortCmpFunc_int__split_ranked_1.in1 s lt o a b i u P (R ++ T) ha L.length L [] i rfl hi (fun y hy => hc y hy u (by simp)) (by simpa using hp) (by simp) (by simp only [List.length_append, List.length_cons, List.length_nil]; omega)
    have e1 : wrap64 (i + 1) = i + 1 := w64 (by omega) (by omega)
    have hl' : L'.length = L.length + 1 := by simpa using q1.length_eq
    obtain ⟨M, m1, m2, m3⟩ := slices_insertionSortCmpFunc_int__split_ranked_1.out s lt o a b P T ha R L' (i + 1) (by omega) (by omega) q2 (fun x hx y hy => by
      rcases List.mem_append.1 (q1.mem_iff.1 hx) with h | h
      · exact hc x h y (by simp [hy])
      · obtain rfl : x = u := by simpa using h
        exact (List.pairwise_cons.1 hr).1 y hy) (List.pairwise_cons.1 hr).2 (by simp only [List.length_append]; omega)
    refine ⟨M, m1.trans ?_, m2, Ev.succ ?_⟩
    · have := List.Perm.append_right R q1
      simpa using this
    · have g : i < b := by omega
      simp only [slices_insertionSortCmpFunc_int__split_ranked_1.l0, if_pos g]
      have := q3 (P ++ M ++ T) (by rw [e1]; simpa using m3)
      simpa using this
theorem slices_insertionSortCmpFunc_int__split_ranked_1.f_sort (s : List Int) (lt : Int → Int → Prop) (o : Tot lt) (a b : Int) (P R T : List Int) (ha : a = (P.length : Int)) (hb : b = a + R.length) (hr : R.Pairwise (Cm s lt)) (hs : (P ++ R ++ T).length < 1000000) :
    ∃ M, M.Perm R ∧ M.Pairwise lt ∧ Ev (fun k => slices_insertionSortCmpFunc_int__split_ranked_1.f k (P ++ R ++ T) a b s) (P ++ M ++ T) := by
  have hs' : P.length + R.length + T.length < 1000000 := by simpa [Nat.add_assoc] using hs
  have e1 : wrap64 (a + 1) = a + 1 := w64 (by omega) (by omega)
  simp only [slices_insertionSortCmpFunc_int__split_ranked_1.f, e1]
  cases R with
  | nil =>
    refine ⟨[], List.Perm.refl _, List.Pairwise.nil, Ev.succ ?_⟩
    have g : ¬ a + 1 < b := by simp at hb; omega
    simp only [slices_insertionSortCmpFunc_int__split_ranked_1.l0, if_neg g]
    exact Ev.const _
  | cons u R =>
    simp only [List.length_cons] at hb
    have h := slices_insertionSortCmpFunc_int__split_ranked_1.out s lt o a b P T ha R [u] (a + 1) (by simp) (by omega) (by simp) (fun x hx y hy => by
      obtain rfl : x = u := by simpa using hx
      exact (List.pairwise_cons.1 hr).1 y hy) (List.pairwise_cons.1 hr).2 (by simpa using hs)
    simpa using h
theorem slices_symMergeCmpFunc_int__split_ranked_1.up (P T : List Int) (u : Int) (i : Int) : ∀ (R : List Int) (P : List Int) (kk : Int), kk = (P.length : Int) → i = kk + 1 + R.length → (P ++ u :: R ++ T).length < 1000000 → Ev (fun k => slices_symMergeCmpFunc_int__split_ranked_1.l1 k (P ++ u :: R ++ T) i kk) (P ++ R ++ u :: T)
  | [], P, kk, hk, hi, hs => by
    refine Ev.succ ?_
    have hs' : P.length + T.length + 1 < 1000000 := by simp only [List.length_append, List.length_cons, List.length_nil] at hs; omega
    have e1 : wrap64 (i - 1) = i - 1 := w64 (by simp at hi; omega) (by simp at hi; omega)
    have g : ¬ kk < i - 1 := by simp at hi; omega
    simp only [slices_symMergeCmpFunc_int__split_ranked_1.l1, e1, if_neg g]
    simpa using Ev.const _
  | y :: R, P, kk, hk, hi, hs => by
    have hs' : P.length + R.length + T.length + 2 < 1000000 := by simp only [List.length_append, List.length_cons] at hs; omega
    simp only [List.length_cons] at hi
    have e1 : wrap64 (i - 1) = i - 1 := w64 (by omega) (by omega)
    have e2 : wrap64 (kk + 1) = kk + 1 := w64 (by omega) (by omega)
    have r1 : rd (P ++ u :: y :: R ++ T) kk = u := by
      rw [show P ++ u :: y :: R ++ T = P ++ u :: (y :: R ++ T) by simp]; exact rd_at _ _ _ _ hk
    have r2 : rd (P ++ u :: y :: R ++ T) (kk + 1) = y := by
      rw [show P ++ u :: y :: R ++ T = (P ++ [u]) ++ y :: (R ++ T) by simp]; exact rd_at _ _ _ _ (by simp; omega)
    have s1 : (P ++ u :: y :: R ++ T).set kk.toNat y = P ++ y :: y :: R ++ T := by
      rw [show P ++ u :: y :: R ++ T = P ++ u :: (y :: R ++ T) by simp, set_at _ _ _ _ _ hk]; simp
    have s2 : (P ++ y :: y :: R ++ T).set (kk + 1).toNat u = (P ++ [y]) ++ u :: R ++ T := by
      rw [show P ++ y :: y :: R ++ T = (P ++ [y]) ++ y :: (R ++ T) by simp, set_at _ _ _ _ _ (by simp; omega)]; simp
    have hlen : ((P ++ u :: y :: R ++ T).length : Int) = P.length + R.length + T.length + 2 := by simp; omega
    have g0 : kk < i - 1 := by omega
    have g1 : 0 ≤ kk := by omega
    have g2 : kk < ((P ++ u :: y :: R ++ T).length : Int) := by omega
    have g3 : 0 ≤ kk + 1 := by omega
    have g4 : kk + 1 < ((P ++ u :: y :: R ++ T).length : Int) := by omega
    have ih := slices_symMergeCmpFunc_int__split_ranked_1.up P T u i R (P ++ [y]) (kk + 1) (by simp; omega) (by omega) (by simp only [List.length_append, List.length_cons, List.length_nil]; omega)
    refine Ev.succ ?_
    simp only [slices_symMergeCmpFunc_int__split_ranked_1.l1, e1, e2, if_pos g0, if_pos g1, if_pos g2, if_pos g3, if_pos g4, r1, r2, s1, s2]
    simpa using ih
theorem slices_symMergeCmpFunc_int__split_ranked_1.down (P : List Int) (u : Int) (i : Int) (hi : i = (P.length : Int)) : ∀ (N : Nat) (L T : List Int) (kk : Int), L.length = N → kk = i + N → (P ++ L ++ u :: T).length < 1000000 → Ev (fun k => slices_symMergeCmpFunc_int__split_ranked_1.l3 k (P ++ L ++ u :: T) i kk) (P ++ u :: L ++ T)
  | 0, L, T, kk, hN, hk, hs => by
    obtain rfl : L = [] := List.eq_nil_of_length_eq_zero hN
    refine Ev.succ ?_
    have g : ¬ kk > i := by simp at hk; omega
    simp only [slices_symMergeCmpFunc_int__split_ranked_1.l3, if_neg g]
    simpa using Ev.const _
  | N + 1, L, T, kk, hN, hk, hs => by
    obtain ⟨L, y, rfl⟩ : ∃ L' y, L = L' ++ [y] := by
      have hne : L ≠ [] := by intro h; rw [h] at hN; simp at hN
      exact ⟨L.dropLast, L.getLast hne, (List.dropLast_concat_getLast hne).symm⟩
    have hN' : L.length = N := by simpa using hN
    have hs' : P.length + L.length + T.length + 2 < 1000000 := by simp only [List.length_append, List.length_cons, List.length_nil] at hs; omega
    have e1 : wrap64 (kk - 1) = kk - 1 := w64 (by omega) (by omega)
    have r1 : rd (P ++ (L ++ [y]) ++ u :: T) kk = u := rd_at _ _ _ _ (by simp; omega)
    have r2 : rd (P ++ (L ++ [y]) ++ u :: T) (kk - 1) = y := by
      rw [show P ++ (L ++ [y]) ++ u :: T = (P ++ L) ++ y :: (u :: T) by simp]; exact rd_at _ _ _ _ (by simp; omega)
    have s1 : (P ++ (L ++ [y]) ++ u :: T).set kk.toNat y = P ++ (L ++ [y]) ++ y :: T := set_at _ _ _ _ _ (by simp; omega)
    have s2 : (P ++ (L ++ [y]) ++ y :: T).set (kk - 1).toNat u = P ++ L ++ u :: (y :: T) := by
      rw [show P ++ (L ++ [y]) ++ y :: T = (P ++ L) ++ y :: (y :: T) by simp, set_at _ _ _ _ _ (by simp; omega)]
    have hlen : ((P ++ (L ++ [y]) ++ u :: T).length : Int) = P.length + L.length + T.length + 2 := by simp; omega
    have g0 : kk > i := by omega
    have g1 : 0 ≤ kk := by omega
    have g2 : kk < ((P ++ (L ++ [y]) ++ u :: T).length : Int) := by omega
    have g3 : 0 ≤ kk - 1 := by omega
    have g4 : kk - 1 < ((P ++ (L ++ [y]) ++ u :: T).length : Int) := by omega
    have ih := slices_symMergeCmpFunc_int__split_ranked_1.down P u i hi N L (y :: T) (kk - 1) hN' (by omega) (by simp only [List.length_append, List.length_cons]; omega)
    refine Ev.succ ?_
    simp only [slices_symMergeCmpFunc_int__split_ranked_1.l3, e1, if_pos g0, if_pos g1, if_pos g2, if_pos g3, if_pos g4, r1, r2, s1, s2]
    simpa using ih
theorem slices_symMergeCmpFunc_int__split_ranked_1.mid {i j : Int} (h0 : 0 ≤ i) (h1 : i ≤ j) (h2 : j < 2000000) : wrap64 (IntKind.u64.wrap (wrap64 (i + j)) / 2) = (i + j) / 2 := by
  rw [w64 (n := i + j) (by omega) (by omega), u64w (by omega) (by omega)]
  exact w64 (by omega) (by omega)
theorem slices_symMergeCmpFunc_int__split_ranked_1.one_left (s : List Int) (lt : Int → Int → Prop) (o : Tot lt) (P R T : List Int) (u a m b : Int) (ha : a = (P.length : Int)) (hm : m = a + 1) (hb : b = m + R.length) (hR : R.Pairwise lt) (hc : ∀ y ∈ R, Cm s lt u y) (hs : (P ++ [u] ++ R ++ T).length < 1000000) :
    ∃ M, M.Perm ([u] ++ R) ∧ M.Pairwise lt ∧ Ev (fun k => slices_symMergeCmpFunc_int__split_ranked_1.l0 k (P ++ [u] ++ R ++ T) a m b s) (P ++ M ++ T) := by
  have hs' : P.length + R.length + T.length + 1 < 1000000 := by simp only [List.length_append, List.length_cons, List.length_nil] at hs; omega
  have hlen : ((P ++ [u] ++ R ++ T).length : Int) = P.length + R.length + T.length + 1 := by simp; omega
  have ru : rd (P ++ [u] ++ R ++ T) a = u := by
    rw [show P ++ [u] ++ R ++ T = P ++ u :: (R ++ T) by simp]; exact rd_at _ _ _ _ ha
  have hl1 : ((P ++ [u]).length : Int) = m := by simp; omega
  have hmem : ∀ c, m ≤ c → c < b → rd (P ++ [u] ++ R ++ T) c ∈ R := fun c c0 c1 => rd_mem (P ++ [u]) R T c (by omega) (by omega)
  have hlt : ∀ c d, m ≤ c → c < d → d < b → lt (rd (P ++ [u] ++ R ++ T) c) (rd (P ++ [u] ++ R ++ T) d) := fun c d c0 c1 c2 => rd_lt (P ++ [u]) R T hR c d (by omega) c1 (by omega)
  obtain ⟨t, t1, t2, t3, t4, t5⟩ := bsearch (fun i j k => slices_symMergeCmpFunc_int__split_ranked_1.l0 k (P ++ [u] ++ R ++ T) a i j s) (fun i k => slices_symMergeCmpFunc_int__split_ranked_1.l1 k (P ++ [u] ++ R ++ T) i a) (fun c => lt (rd (P ++ [u] ++ R ++ T) c) u) m b
    (fun i j r i0 ij j0 q h => by
      refine Ev.succ ?_
      have e := slices_symMergeCmpFunc_int__split_ranked_1.mid (i := i) (j := j) (by omega) (by omega) (by omega)
      have e2 : wrap64 ((i + j) / 2 + 1) = (i + j) / 2 + 1 := w64 (by omega) (by omega)
      obtain ⟨_, v, hv, hvl⟩ := hc _ (hmem ((i + j) / 2) (by omega) (by omega))
      have hv0 : v < 0 := hvl.2 q
      have g1 : 0 ≤ (i + j) / 2 := by omega
      have g2 : (i + j) / 2 < ((P ++ [u] ++ R ++ T).length : Int) := by omega
      have g3 : 0 ≤ a := by omega
      have g4 : a < ((P ++ [u] ++ R ++ T).length : Int) := by omega
      simp only [slices_symMergeCmpFunc_int__split_ranked_1.l0, e, e2, if_pos ij, if_pos g1, if_pos g2, if_pos g3, if_pos g4, ru, hv, Option.bind_some, if_pos hv0]
      exact h)
    (fun i j r i0 ij j0 q h => by
      refine Ev.succ ?_
      have e := slices_symMergeCmpFunc_int__split_ranked_1.mid (i := i) (j := j) (by omega) (by omega) (by omega)
      obtain ⟨_, v, hv, hvl⟩ := hc _ (hmem ((i + j) / 2) (by omega) (by omega))
      have hv0 : ¬ v < 0 := fun k => q (hvl.1 k)
      have g1 : 0 ≤ (i + j) / 2 := by omega
      have g2 : (i + j) / 2 < ((P ++ [u] ++ R ++ T).length : Int) := by omega
      have g3 : 0 ≤ a := by omega
      have g4 : a < ((P ++ [u] ++ R ++ T).length : Int) := by omega
      simp only [slices_symMergeCmpFunc_int__split_ranked_1.l0, e, if_pos ij, if_pos g1, if_pos g2, if_pos g3, if_pos g4, ru, hv, Option.bind_some, if_neg hv0]
      exact h)
    (fun i r _ _ h => by
      refine Ev.succ ?_
      simp only [slices_symMergeCmpFunc_int__split_ranked_1.l0, if_neg (Int.lt_irrefl i)]
      exact h)
    (fun c d c0 c1 c2 q => o.trans _ _ _ (hlt c d c0 c1 c2) q) _ m b (Nat.le_refl _) (by omega) (Int.le_refl _) (Int.le_refl _) (fun c c0 c1 => by omega) (fun c c0 c1 => by omega)
  obtain ⟨R1, R2, rfl, l1, l2⟩ := split_at R (t - m).toNat (by omega)
  rw [List.length_append] at hb
  obtain ⟨p1, p2, p3⟩ := List.pairwise_append.1 hR
  have q1 : ∀ y ∈ R1, lt y u := fun y hy => by
    obtain ⟨c, c0, c1, rfl⟩ := mem_rd (P ++ [u]) R1 (R2 ++ T) y hy
    have := t3 c (by omega) (by omega)
    simpa using this
  have q2 : ∀ y ∈ R2, lt u y := fun y hy => by
    obtain ⟨c, c0, c1, e⟩ := mem_rd (P ++ [u] ++ R1) R2 T y hy
    have := t4 c (by rw [List.length_append] at c0; omega) (by rw [List.length_append] at c1; omega)
    have e' : rd (P ++ [u] ++ (R1 ++ R2) ++ T) c = y := by simpa using e
    rw [e'] at this
    exact (o.tot u y (hc y (by simp [hy])).1).resolve_right this
  refine ⟨R1 ++ u :: R2, ?_, ?_, t5 _ ?_⟩
  · exact List.perm_middle
  · refine List.pairwise_append.2 ⟨p1, List.pairwise_cons.2 ⟨q2, p2⟩, fun y hy z hz => ?_⟩
    rcases List.mem_cons.1 hz with rfl | hz
    · exact q1 y hy
    · exact p3 y hy z hz
  · have := slices_symMergeCmpFunc_int__split_ranked_1.up P (R2 ++ T) u t R1 P a ha (by omega) (by simp only [List.length_append, List.length_cons] at *; omega)
    simpa using this
theorem slices_symMergeCmpFunc_int__split_ranked_1.one_right (s : List Int) (lt : Int → Int → Prop) (o : Tot lt) (P L T : List Int) (u a m b : Int) (ha : a = (P.length : Int)) (hm : m = a + L.length) (hL : L.Pairwise lt) (hc : ∀ x ∈ L, Cm s lt x u) (hs : (P ++ L ++ [u] ++ T).length < 1000000) :
    ∃ M, M.Perm (L ++ [u]) ∧ M.Pairwise lt ∧ Ev (fun k => slices_symMergeCmpFunc_int__split_ranked_1.l2 k (P ++ L ++ [u] ++ T) m a m s) (P ++ M ++ T) := by
  have hs' : P.length + L.length + T.length + 1 < 1000000 := by simp only [List.length_append, List.length_cons, List.length_nil] at hs; omega
  have hlen : ((P ++ L ++ [u] ++ T).length : Int) = P.length + L.length + T.length + 1 := by simp; omega
  have ru : rd (P ++ L ++ [u] ++ T) m = u := by
    rw [show P ++ L ++ [u] ++ T = (P ++ L) ++ u :: T by simp]; exact rd_at _ _ _ _ (by simp; omega)
  have hmem : ∀ c, a ≤ c → c < m → rd (P ++ L ++ [u] ++ T) c ∈ L := fun c c0 c1 => by
    rw [show P ++ L ++ [u] ++ T = P ++ L ++ ([u] ++ T) by simp]; exact rd_mem P L _ c (by omega) (by omega)
  have hlt : ∀ c d, a ≤ c → c < d → d < m → lt (rd (P ++ L ++ [u] ++ T) c) (rd (P ++ L ++ [u] ++ T) d) := fun c d c0 c1 c2 => by
    rw [show P ++ L ++ [u] ++ T = P ++ L ++ ([u] ++ T) by simp]; exact rd_lt P L _ hL c d (by omega) c1 (by omega)
  obtain ⟨t, t1, t2, t3, t4, t5⟩ := bsearch (fun i j k => slices_symMergeCmpFunc_int__split_ranked_1.l2 k (P ++ L ++ [u] ++ T) m i j s) (fun i k => slices_symMergeCmpFunc_int__split_ranked_1.l3 k (P ++ L ++ [u] ++ T) i m) (fun c => ¬ lt u (rd (P ++ L ++ [u] ++ T) c)) a m
    (fun i j r i0 ij j0 q h => by
      refine Ev.succ ?_
      have e := slices_symMergeCmpFunc_int__split_ranked_1.mid (i := i) (j := j) (by omega) (by omega) (by omega)
      have e2 : wrap64 ((i + j) / 2 + 1) = (i + j) / 2 + 1 := w64 (by omega) (by omega)
      obtain ⟨_, v, hv, hvl⟩ := hc _ (hmem ((i + j) / 2) (by omega) (by omega))
      have hv0 : ¬ v < 0 := fun k => q (hvl.1 k)
      have g1 : 0 ≤ (i + j) / 2 := by omega
      have g2 : (i + j) / 2 < ((P ++ L ++ [u] ++ T).length : Int) := by omega
      have g3 : 0 ≤ m := by omega
      have g4 : m < ((P ++ L ++ [u] ++ T).length : Int) := by omega
      simp only [slices_symMergeCmpFunc_int__split_ranked_1.l2, e, e2, if_pos ij, if_pos g1, if_pos g2, if_pos g3, if_pos g4, ru, hv, Option.bind_some, if_neg hv0]
      exact h)
    (fun i j r i0 ij j0 q h => by
      refine Ev.succ ?_
      have e := slices_symMergeCmpFunc_int__split_ranked_1.mid (i := i) (j := j) (by omega) (by omega) (by omega)
      obtain ⟨_, v, hv, hvl⟩ := hc _ (hmem ((i + j) / 2) (by omega) (by omega))
      have hv0 : v < 0 := hvl.2 (Classical.not_not.1 q)
      have g1 : 0 ≤ (i + j) / 2 := by omega
      have g2 : (i + j) / 2 < ((P ++ L ++ [u] ++ T).length : Int) := by omega
      have g3 : 0 ≤ m := by omega
      have g4 : m < ((P ++ L ++ [u] ++ T).length : Int) := by omega
      simp only [slices_symMergeCmpFunc_int__split_ranked_1.l2, e, if_pos ij, if_pos g1, if_pos g2, if_pos g3, if_pos g4, ru, hv, Option.bind_some, if_pos hv0]
      exact h)
    (fun i r _ _ h => by
      refine Ev.succ ?_
      simp only [slices_symMergeCmpFunc_int__split_ranked_1.l2, if_neg (Int.lt_irrefl i)]
      exact h)
    (fun c d c0 c1 c2 q k => q (o.trans _ _ _ k (hlt c d c0 c1 c2))) _ a m (Nat.le_refl _) (by omega) (Int.le_refl _) (Int.le_refl _) (fun c c0 c1 => by omega) (fun c c0 c1 => by omega)
  obtain ⟨L1, L2, rfl, l1, l2⟩ := split_at L (t - a).toNat (by omega)
  rw [List.length_append] at hm
  obtain ⟨p1, p2, p3⟩ := List.pairwise_append.1 hL
  have q1 : ∀ y ∈ L1, lt y u := fun y hy => by
    obtain ⟨c, c0, c1, e⟩ := mem_rd P L1 (L2 ++ [u] ++ T) y hy
    have := t3 c (by omega) (by omega)
    have e' : rd (P ++ (L1 ++ L2) ++ [u] ++ T) c = y := by simpa using e
    rw [e'] at this
    exact (o.tot u y (Ne.symm (hc y (by simp [hy])).1)).resolve_left this
  have q2 : ∀ y ∈ L2, lt u y := fun y hy => by
    obtain ⟨c, c0, c1, e⟩ := mem_rd (P ++ L1) L2 ([u] ++ T) y hy
    have := Classical.not_not.1 (t4 c (by rw [List.length_append] at c0; omega) (by rw [List.length_append] at c1; omega))
    have e' : rd (P ++ (L1 ++ L2) ++ [u] ++ T) c = y := by simpa using e
    rwa [e'] at this
  refine ⟨L1 ++ u :: L2, ?_, ?_, t5 _ ?_⟩
  · rw [List.append_assoc]
    exact List.Perm.append_left L1 (List.perm_append_comm (l₁ := [u]) (l₂ := L2))
  · refine List.pairwise_append.2 ⟨p1, List.pairwise_cons.2 ⟨q2, p2⟩, fun y hy z hz => ?_⟩
    rcases List.mem_cons.1 hz with rfl | hz
    · exact q1 y hy
    · exact p3 y hy z hz
  · have := slices_symMergeCmpFunc_int__split_ranked_1.down (P ++ L1) u t (by rw [List.length_append]; omega) L2.length L2 T m rfl (by omega) (by simp only [List.length_append, List.length_cons, List.length_nil] at *; omega)
    simpa using this
/-- What is proved of a merge of two neighbours. -/
def slices_symMergeCmpFunc_int__split_ranked_1.Ok (s : List Int) (lt : Int → Int → Prop) (P L R T : List Int) (a m b : Int) : Prop :=
  ∃ M, M.Perm (L ++ R) ∧ M.Pairwise lt ∧ Ev (fun k => slices_symMergeCmpFunc_int__split_ranked_1.f k (P ++ L ++ R ++ T) a m b s) (P ++ M ++ T)
theorem slices_symMergeCmpFunc_int__split_ranked_1.tail (s : List Int) (lt : Int → Int → Prop) (P L1 R1 L2 R2 T : List Int) (a mid start fin b : Int) (ha : a = (P.length : Int)) (hst : start = a + L1.length) (hmid : mid = start + R1.length) (hfin : fin = mid + L2.length) (hb : b = fin + R2.length)
    (hL1 : L1.Pairwise lt) (hR1 : R1.Pairwise lt) (hL2 : L2.Pairwise lt) (hR2 : R2.Pairwise lt)
    (f1 : ∀ x ∈ L1, ∀ y ∈ L2, lt x y) (f2 : ∀ x ∈ L1, ∀ y ∈ R2, lt x y) (f3 : ∀ x ∈ R1, ∀ y ∈ L2, lt x y) (f4 : ∀ x ∈ R1, ∀ y ∈ R2, lt x y)
    (h1 : 0 < L1.length → 0 < R1.length → ∀ T', (P ++ L1 ++ R1 ++ T').length < 1000000 → slices_symMergeCmpFunc_int__split_ranked_1.Ok s lt P L1 R1 T' a start mid)
    (h2 : 0 < L2.length → 0 < R2.length → ∀ P', mid = (P'.length : Int) → (P' ++ L2 ++ R2 ++ T).length < 1000000 → slices_symMergeCmpFunc_int__split_ranked_1.Ok s lt P' L2 R2 T mid fin b)
    (hs : (P ++ L1 ++ R1 ++ L2 ++ R2 ++ T).length < 1000000) :
    ∃ M, M.Perm (L1 ++ R1 ++ (L2 ++ R2)) ∧ M.Pairwise lt ∧ Ev (fun k => slices_symMergeCmpFunc_int__split_ranked_1.j7 k (P ++ L1 ++ R1 ++ L2 ++ R2 ++ T) a b mid start fin s) (P ++ M ++ T) := by
  simp only [List.length_append] at hs
  obtain ⟨M1, m1, m2, m3, m4⟩ : ∃ M1 : List Int, M1.Perm (L1 ++ R1) ∧ M1.Pairwise lt ∧ (0 < L1.length → 0 < R1.length → Ev (fun k => slices_symMergeCmpFunc_int__split_ranked_1.f k (P ++ L1 ++ R1 ++ L2 ++ R2 ++ T) a start mid s) (P ++ M1 ++ L2 ++ R2 ++ T)) ∧ (¬ (0 < L1.length ∧ 0 < R1.length) → M1 = L1 ++ R1) := by
    by_cases c : 0 < L1.length ∧ 0 < R1.length
    · obtain ⟨M, q1, q2, q3⟩ := h1 c.1 c.2 (L2 ++ R2 ++ T) (by simp only [List.length_append]; omega)
      exact ⟨M, q1, q2, fun _ _ => by simpa using q3, fun h => absurd c h⟩
    · refine ⟨L1 ++ R1, List.Perm.refl _, ?_, fun a b => absurd ⟨a, b⟩ c, fun _ => rfl⟩
      by_cases c1 : L1.length = 0
      · rw [List.eq_nil_of_length_eq_zero c1]; simpa using hR1
      · have c2 : R1.length = 0 := by omega
        rw [List.eq_nil_of_length_eq_zero c2]; simpa using hL1
  have hl1 : M1.length = L1.length + R1.length := by have := m1.length_eq; simpa using this
  obtain ⟨M2, n1, n2, n3, n4⟩ : ∃ M2 : List Int, M2.Perm (L2 ++ R2) ∧ M2.Pairwise lt ∧ (0 < L2.length → 0 < R2.length → Ev (fun k => slices_symMergeCmpFunc_int__split_ranked_1.f k (P ++ M1 ++ L2 ++ R2 ++ T) mid fin b s) (P ++ M1 ++ M2 ++ T)) ∧ (¬ (0 < L2.length ∧ 0 < R2.length) → M2 = L2 ++ R2) := by
    by_cases c : 0 < L2.length ∧ 0 < R2.length
    · obtain ⟨M, q1, q2, q3⟩ := h2 c.1 c.2 (P ++ M1) (by simp; omega) (by simp only [List.length_append]; omega)
      exact ⟨M, q1, q2, fun _ _ => q3, fun h => absurd c h⟩
    · refine ⟨L2 ++ R2, List.Perm.refl _, ?_, fun a b => absurd ⟨a, b⟩ c, fun _ => rfl⟩
      by_cases c1 : L2.length = 0
      · rw [List.eq_nil_of_length_eq_zero c1]; simpa using hR2
      · have c2 : R2.length = 0 := by omega
        rw [List.eq_nil_of_length_eq_zero c2]; simpa using hL2
  refine ⟨M1 ++ M2, m1.append n1, List.pairwise_append.2 ⟨m2, n2, fun x hx y hy => ?_⟩, ?_⟩
  · rcases List.mem_append.1 (m1.mem_iff.1 hx) with hx | hx <;> rcases List.mem_append.1 (n1.mem_iff.1 hy) with hy | hy
    · exact f1 x hx y hy
    · exact f2 x hx y hy
    · exact f3 x hx y hy
    · exact f4 x hx y hy
  have key : Ev (fun k => if fin > mid then (if fin < b then ((slices_symMergeCmpFunc_int__split_ranked_1.f k (P ++ M1 ++ L2 ++ R2 ++ T) mid fin b s).bind fun t => some t) else some (P ++ M1 ++ L2 ++ R2 ++ T)) else some (P ++ M1 ++ L2 ++ R2 ++ T)) (P ++ (M1 ++ M2) ++ T) := by
    by_cases c1 : fin > mid
    · by_cases c2 : fin < b
      · simp only [if_pos c1, if_pos c2]
        refine Ev.bind (n3 (by omega) (by omega)) ?_
        simpa using Ev.const _
      · simp only [if_pos c1, if_neg c2]
        rw [n4 (by omega)]
        simpa using Ev.const _
    · simp only [if_neg c1]
      rw [n4 (by omega)]
      simpa using Ev.const _
  have key2 : Ev (fun k => slices_symMergeCmpFunc_int__split_ranked_1.j8 k (P ++ L1 ++ R1 ++ L2 ++ R2 ++ T) a b mid start fin (decide (a < start ∧ start < mid)) s) (P ++ (M1 ++ M2) ++ T) := by
    refine Ev.succ ?_
    by_cases c : a < start ∧ start < mid
    · simp only [slices_symMergeCmpFunc_int__split_ranked_1.j8, decide_eq_true c, if_true]
      refine Ev.bind (m3 (by omega) (by omega)) ?_
      exact key
    · simp only [slices_symMergeCmpFunc_int__split_ranked_1.j8, decide_eq_false c, Bool.false_eq_true, if_false]
      have e := m4 (by omega)
      rw [show P ++ L1 ++ R1 ++ L2 ++ R2 ++ T = P ++ M1 ++ L2 ++ R2 ++ T by rw [e]; simp]
      exact key
  refine Ev.succ ?_
  by_cases c1 : a < start
  · simp only [slices_symMergeCmpFunc_int__split_ranked_1.j7, if_pos c1]
    simpa [c1] using key2
  · simp only [slices_symMergeCmpFunc_int__split_ranked_1.j7, if_neg c1]
    simpa [c1] using key2
theorem slices_symMergeCmpFunc_int__split_ranked_1.search (s : List Int) (lt : Int → Int → Prop) (o : Tot lt) (P L R T : List Int) (a m b mid n st r : Int) (ha : a = (P.length : Int)) (hm : m = a + L.length) (hb : b = m + R.length) (hL : L.Pairwise lt) (hR : R.Pairwise lt) (hc : ∀ x ∈ L, ∀ y ∈ R, Cm s lt x y) (hs : (P ++ L ++ R ++ T).length < 1000000)
    (hn : n = mid + m) (h0 : a ≤ st) (h1 : st ≤ r) (h2 : r ≤ m) (h3 : n - st ≤ b) (h4 : m ≤ n - r) :
    ∃ t, st ≤ t ∧ t ≤ r ∧ (∀ c, st ≤ c → c < t → lt (rd (P ++ L ++ R ++ T) c) (rd (P ++ L ++ R ++ T) (n - 1 - c))) ∧ (∀ c, t ≤ c → c < r → lt (rd (P ++ L ++ R ++ T) (n - 1 - c)) (rd (P ++ L ++ R ++ T) c)) ∧
      ∀ X, Ev (fun k => slices_symMergeCmpFunc_int__split_ranked_1.j6 k (P ++ L ++ R ++ T) a m b mid t (n - t) (decide (t < m ∧ m < n - t)) s) X → Ev (fun k => slices_symMergeCmpFunc_int__split_ranked_1.l4 k (P ++ L ++ R ++ T) a m b mid n st r (n - 1) s) X := by
  have hs' : P.length + L.length + R.length + T.length < 1000000 := by simp only [List.length_append] at hs; omega
  have hlen : ((P ++ L ++ R ++ T).length : Int) = P.length + L.length + R.length + T.length := by simp only [List.length_append]; omega
  have hmL : ∀ c, a ≤ c → c < m → rd (P ++ L ++ R ++ T) c ∈ L := fun c c0 c1 => by
    rw [show P ++ L ++ R ++ T = P ++ L ++ (R ++ T) by simp]; exact rd_mem P L _ c (by omega) (by omega)
  have hmR : ∀ c, m ≤ c → c < b → rd (P ++ L ++ R ++ T) c ∈ R := fun c c0 c1 => rd_mem (P ++ L) R T c (by rw [List.length_append]; omega) (by rw [List.length_append]; omega)
  have hlL : ∀ c d, a ≤ c → c < d → d < m → lt (rd (P ++ L ++ R ++ T) c) (rd (P ++ L ++ R ++ T) d) := fun c d c0 c1 c2 => by
    rw [show P ++ L ++ R ++ T = P ++ L ++ (R ++ T) by simp]; exact rd_lt P L _ hL c d (by omega) c1 (by omega)
  have hlR : ∀ c d, m ≤ c → c < d → d < b → lt (rd (P ++ L ++ R ++ T) c) (rd (P ++ L ++ R ++ T) d) := fun c d c0 c1 c2 => rd_lt (P ++ L) R T hR c d (by rw [List.length_append]; omega) c1 (by rw [List.length_append]; omega)
  obtain ⟨t, t1, t2, t3, t4, t5⟩ := bsearch (fun i j k => slices_symMergeCmpFunc_int__split_ranked_1.l4 k (P ++ L ++ R ++ T) a m b mid n i j (n - 1) s) (fun t k => slices_symMergeCmpFunc_int__split_ranked_1.j6 k (P ++ L ++ R ++ T) a m b mid t (n - t) (decide (t < m ∧ m < n - t)) s) (fun c => ¬ lt (rd (P ++ L ++ R ++ T) (n - 1 - c)) (rd (P ++ L ++ R ++ T) c)) st r
    (fun i j X i0 ij j0 q h => by
      refine Ev.succ ?_
      have e := slices_symMergeCmpFunc_int__split_ranked_1.mid (i := i) (j := j) (by omega) (by omega) (by omega)
      have e2 : wrap64 ((i + j) / 2 + 1) = (i + j) / 2 + 1 := w64 (by omega) (by omega)
      have e3 : wrap64 (n - 1 - (i + j) / 2) = n - 1 - (i + j) / 2 := w64 (by omega) (by omega)
      obtain ⟨_, v, hv, hvl⟩ := hc _ (hmL ((i + j) / 2) (by omega) (by omega)) _ (hmR (n - 1 - (i + j) / 2) (by omega) (by omega))
      have hv0 : ¬ v < 0 := fun k => q (hvl.1 k)
      have g1 : 0 ≤ (i + j) / 2 := by omega
      have g2 : (i + j) / 2 < ((P ++ L ++ R ++ T).length : Int) := by omega
      have g3 : 0 ≤ n - 1 - (i + j) / 2 := by omega
      have g4 : n - 1 - (i + j) / 2 < ((P ++ L ++ R ++ T).length : Int) := by omega
      simp only [slices_symMergeCmpFunc_int__split_ranked_1.l4, e, e2, e3, if_pos ij, if_pos g1, if_pos g2, if_pos g3, if_pos g4, hv, Option.bind_some, if_neg hv0]
      exact h)
    (fun i j X i0 ij j0 q h => by
      refine Ev.succ ?_
      have e := slices_symMergeCmpFunc_int__split_ranked_1.mid (i := i) (j := j) (by omega) (by omega) (by omega)
      have e3 : wrap64 (n - 1 - (i + j) / 2) = n - 1 - (i + j) / 2 := w64 (by omega) (by omega)
      obtain ⟨_, v, hv, hvl⟩ := hc _ (hmL ((i + j) / 2) (by omega) (by omega)) _ (hmR (n - 1 - (i + j) / 2) (by omega) (by omega))
      have hv0 : v < 0 := hvl.2 (Classical.not_not.1 q)
      have g1 : 0 ≤ (i + j) / 2 := by omega
      have g2 : (i + j) / 2 < ((P ++ L ++ R ++ T).length : Int) := by omega
      have g3 : 0 ≤ n - 1 - (i + j) / 2 := by omega
      have g4 : n - 1 - (i + j) / 2 < ((P ++ L ++ R ++ T).length : Int) := by omega
      simp only [slices_symMergeCmpFunc_int__split_ranked_1.l4, e, e3, if_pos ij, if_pos g1, if_pos g2, if_pos g3, if_pos g4, hv, Option.bind_some, if_pos hv0]
      exact h)
    (fun i X i0 j0 h => by
      refine Ev.succ ?_
      have e3 : wrap64 (n - i) = n - i := w64 (by omega) (by omega)
      by_cases c : i < m
      · simp only [slices_symMergeCmpFunc_int__split_ranked_1.l4, if_neg (Int.lt_irrefl i), if_pos c, e3]
        simpa [c] using h
      · simp only [slices_symMergeCmpFunc_int__split_ranked_1.l4, if_neg (Int.lt_irrefl i), if_neg c, e3]
        simpa [c] using h)
    (fun c d c0 c1 c2 q k => q (o.trans _ _ _ (hlR (n - 1 - d) (n - 1 - c) (by omega) (by omega) (by omega)) (o.trans _ _ _ k (hlL c d (by omega) c1 (by omega))))) _ st r (Nat.le_refl _) h1 (Int.le_refl _) (Int.le_refl _) (fun c c0 c1 => by omega) (fun c c0 c1 => by omega)
  refine ⟨t, t1, t2, fun c c0 c1 => ?_, fun c c0 c1 => Classical.not_not.1 (t4 c c0 c1), t5⟩
  exact (o.tot _ _ (hc _ (hmL c (by omega) (by omega)) _ (hmR (n - 1 - c) (by omega) (by omega))).1).resolve_right (t3 c c0 c1)
theorem slices_symMergeCmpFunc_int__split_ranked_1.merge (s : List Int) (lt : Int → Int → Prop) (o : Tot lt) : ∀ (N : Nat) (P L R T : List Int) (a m b : Int), L.length + R.length ≤ N → 0 < L.length → 0 < R.length → a = (P.length : Int) → m = a + L.length → b = m + R.length → L.Pairwise lt → R.Pairwise lt → (∀ x ∈ L, ∀ y ∈ R, Cm s lt x y) → (P ++ L ++ R ++ T).length < 1000000 → slices_symMergeCmpFunc_int__split_ranked_1.Ok s lt P L R T a m b
  | 0, P, L, R, T, a, m, b, hN, h0, h1, _, _, _, _, _, _, _ => by omega
  | N + 1, P, L, R, T, a, m, b, hN, h0, h1, ha, hm, hb, hL, hR, hc, hs => by
    have hs' : P.length + L.length + R.length + T.length < 1000000 := by simp only [List.length_append] at hs; omega
    have e1 : wrap64 (m - a) = m - a := w64 (by omega) (by omega)
    have e2 : wrap64 (b - m) = b - m := w64 (by omega) (by omega)
    by_cases c1 : m - a = 1
    · obtain ⟨u, rfl⟩ := List.length_eq_one_iff.1 (show L.length = 1 by omega)
      obtain ⟨M, q1, q2, q3⟩ := slices_symMergeCmpFunc_int__split_ranked_1.one_left s lt o P R T u a m b ha (by omega) hb hR (fun y hy => hc u (by simp) y hy) hs
      refine ⟨M, q1, q2, Ev.succ ?_⟩
      simp only [slices_symMergeCmpFunc_int__split_ranked_1.f, e1, if_pos c1]
      exact q3
    by_cases c2 : b - m = 1
    · obtain ⟨u, rfl⟩ := List.length_eq_one_iff.1 (show R.length = 1 by omega)
      obtain ⟨M, q1, q2, q3⟩ := slices_symMergeCmpFunc_int__split_ranked_1.one_right s lt o P L T u a m b ha hm hL (fun x hx => hc x hx u (by simp)) hs
      refine ⟨M, q1, q2, Ev.succ ?_⟩
      simp only [slices_symMergeCmpFunc_int__split_ranked_1.f, e1, e2, if_neg c1, if_pos c2]
      exact q3
    have em := slices_symMergeCmpFunc_int__split_ranked_1.mid (i := a) (j := b) (by omega) (by omega) (by omega)
    obtain ⟨mid, hmid⟩ : ∃ mid, mid = (a + b) / 2 := ⟨_, rfl⟩
    rw [← hmid] at em
    have e3 : wrap64 (mid + m) = mid + m := w64 (by omega) (by omega)
    have e4 : wrap64 (mid + m - b) = mid + m - b := w64 (by omega) (by omega)
    have e5 : wrap64 (mid + m - 1) = mid + m - 1 := w64 (by omega) (by omega)
    -- what follows the search, for any place that it finds
    have fol : ∀ t st r : Int, a ≤ st → st ≤ t → t ≤ r → r ≤ m → t ≤ mid → mid + m - t ≤ b → (∀ c, st ≤ c → c < t → lt (rd (P ++ L ++ R ++ T) c) (rd (P ++ L ++ R ++ T) (mid + m - 1 - c))) → (∀ c, t ≤ c → c < r → lt (rd (P ++ L ++ R ++ T) (mid + m - 1 - c)) (rd (P ++ L ++ R ++ T) c)) → (st = a ∨ mid + m - st = b) → (r = m ∨ r = mid) →
        ∃ M, M.Perm (L ++ R) ∧ M.Pairwise lt ∧ Ev (fun k => slices_symMergeCmpFunc_int__split_ranked_1.j6 k (P ++ L ++ R ++ T) a m b mid t (mid + m - t) (decide (t < m ∧ m < mid + m - t)) s) (P ++ M ++ T) := by
      intro t st r u0 u1 u2 u3 u4 u5 k1 k2 k3 k4
      have hmL : ∀ c d, a ≤ c → c < d → d < m → lt (rd (P ++ L ++ R ++ T) c) (rd (P ++ L ++ R ++ T) d) := fun c d c0 c1 c2 => by
        rw [show P ++ L ++ R ++ T = P ++ L ++ (R ++ T) by simp]; exact rd_lt P L _ hL c d (by omega) c1 (by omega)
      have hmR : ∀ c d, m ≤ c → c < d → d < b → lt (rd (P ++ L ++ R ++ T) c) (rd (P ++ L ++ R ++ T) d) := fun c d c0 c1 c2 => rd_lt (P ++ L) R T hR c d (by rw [List.length_append]; omega) c1 (by rw [List.length_append]; omega)
      have A : ∀ c d, a ≤ c → c < t → mid + m - t ≤ d → d < b → lt (rd (P ++ L ++ R ++ T) c) (rd (P ++ L ++ R ++ T) d) := fun c d c0 c1 d0 d1 => by
        have z := k1 (t - 1) (by omega) (by omega)
        rw [show mid + m - 1 - (t - 1) = mid + m - t by omega] at z
        have z1 : c = t - 1 ∨ c < t - 1 := by omega
        have z2 : d = mid + m - t ∨ mid + m - t < d := by omega
        rcases z1 with rfl | z1 <;> rcases z2 with rfl | z2
        · exact z
        · exact o.trans _ _ _ z (hmR _ _ (by omega) z2 d1)
        · exact o.trans _ _ _ (hmL _ _ c0 z1 (by omega)) z
        · exact o.trans _ _ _ (hmL _ _ c0 z1 (by omega)) (o.trans _ _ _ z (hmR _ _ (by omega) z2 d1))
      have B : ∀ c d, m ≤ c → c < mid + m - t → t ≤ d → d < m → lt (rd (P ++ L ++ R ++ T) c) (rd (P ++ L ++ R ++ T) d) := fun c d c0 c1 d0 d1 => by
        have z := k2 t (by omega) (by omega)
        have z1 : c = mid + m - 1 - t ∨ c < mid + m - 1 - t := by omega
        have z2 : d = t ∨ t < d := by omega
        rcases z1 with rfl | z1 <;> rcases z2 with rfl | z2
        · exact z
        · exact o.trans _ _ _ z (hmL _ _ (by omega) z2 d1)
        · exact o.trans _ _ _ (hmR _ _ c0 z1 (by omega)) z
        · exact o.trans _ _ _ (hmR _ _ c0 z1 (by omega)) (o.trans _ _ _ z (hmL _ _ (by omega) z2 d1))
      obtain ⟨L1, L2, rfl, l1, l2⟩ := split_at L (t - a).toNat (by omega)
      obtain ⟨R1, R2, rfl, l3, l4⟩ := split_at R (mid - t).toNat (by omega)
      simp only [List.length_append] at hm hb hN h0 h1 l2 l4 hs'
      obtain ⟨p1, p2, p3⟩ := List.pairwise_append.1 hL
      obtain ⟨p4, p5, p6⟩ := List.pairwise_append.1 hR
      have f2 : ∀ x ∈ L1, ∀ y ∈ R2, lt x y := fun x hx y hy => by
        obtain ⟨c, c0, c1, e⟩ := mem_rd P L1 (L2 ++ R1 ++ R2 ++ T) x hx
        obtain ⟨d, d0, d1, e'⟩ := mem_rd (P ++ L1 ++ L2 ++ R1) R2 T y hy
        simp only [List.length_append] at d0 d1
        have z := A c d (by omega) (by omega) (by omega) (by omega)
        rw [show P ++ (L1 ++ L2) ++ (R1 ++ R2) ++ T = P ++ L1 ++ (L2 ++ R1 ++ R2 ++ T) by simp, e, show P ++ L1 ++ (L2 ++ R1 ++ R2 ++ T) = P ++ L1 ++ L2 ++ R1 ++ R2 ++ T by simp, e'] at z
        exact z
      have f3 : ∀ x ∈ R1, ∀ y ∈ L2, lt x y := fun x hx y hy => by
        obtain ⟨c, c0, c1, e⟩ := mem_rd (P ++ L1 ++ L2) R1 (R2 ++ T) x hx
        obtain ⟨d, d0, d1, e'⟩ := mem_rd (P ++ L1) L2 (R1 ++ R2 ++ T) y hy
        simp only [List.length_append] at c0 c1 d0 d1
        have z := B c d (by omega) (by omega) (by omega) (by omega)
        rw [show P ++ (L1 ++ L2) ++ (R1 ++ R2) ++ T = P ++ L1 ++ L2 ++ R1 ++ (R2 ++ T) by simp, e, show P ++ L1 ++ L2 ++ R1 ++ (R2 ++ T) = P ++ L1 ++ L2 ++ (R1 ++ R2 ++ T) by simp, e'] at z
        exact z
      obtain ⟨M, q1, q2, q3⟩ := slices_symMergeCmpFunc_int__split_ranked_1.tail s lt P L1 R1 L2 R2 T a mid t (mid + m - t) b ha (by omega) (by omega) (by omega) (by omega) p1 p4 p2 p5 p3 f2 f3 p6
        (fun v0 v1 T' hT => slices_symMergeCmpFunc_int__split_ranked_1.merge s lt o N P L1 R1 T' a t mid (by omega) v0 v1 ha (by omega) (by omega) p1 p4 (fun x hx y hy => hc x (by simp [hx]) y (by simp [hy])) hT)
        (fun v0 v1 P' hP' hT => slices_symMergeCmpFunc_int__split_ranked_1.merge s lt o N P' L2 R2 T mid (mid + m - t) b (by omega) v0 v1 hP' (by omega) (by omega) p2 p5 (fun x hx y hy => hc x (by simp [hx]) y (by simp [hy])) hT)
        (by simp only [List.length_append]; omega)
      refine ⟨M, q1.trans ?_, q2, Ev.succ ?_⟩
      · simp only [List.append_assoc]
        refine List.Perm.append_left L1 ?_
        rw [← List.append_assoc, ← List.append_assoc]
        exact List.Perm.append_right R2 List.perm_append_comm
      · by_cases c : t < m ∧ m < mid + m - t
        · simp only [slices_symMergeCmpFunc_int__split_ranked_1.j6, decide_eq_true c, if_true]
          have z := slices_rotateCmpFunc_int__split_ranked_1.f_rot s (P ++ L1) L2 R1 (R2 ++ T) t m (mid + m - t) (by omega) (by omega) (by simp only [List.length_append]; omega) (by simp only [List.length_append]; omega) (by simp only [List.length_append]; omega) (by simp only [List.length_append]; omega)
          refine Ev.bind (a := P ++ L1 ++ R1 ++ L2 ++ R2 ++ T) ?_ q3
          simpa using z
        · simp only [slices_symMergeCmpFunc_int__split_ranked_1.j6, decide_eq_false c, Bool.false_eq_true, if_false]
          have z : L2 ++ R1 = R1 ++ L2 := by
            by_cases d : L2.length = 0
            · rw [List.eq_nil_of_length_eq_zero d]; simp
            · rw [List.eq_nil_of_length_eq_zero (show R1.length = 0 by omega)]; simp
          rw [show P ++ (L1 ++ L2) ++ (R1 ++ R2) ++ T = P ++ L1 ++ (L2 ++ R1) ++ R2 ++ T by simp, z]
          simpa using q3
    by_cases c3 : m > mid
    · obtain ⟨t, t1, t2, t3, t4, t5⟩ := slices_symMergeCmpFunc_int__split_ranked_1.search s lt o P L R T a m b mid (mid + m) (mid + m - b) mid ha hm hb hL hR hc hs rfl (by omega) (by omega) (by omega) (by omega) (by omega)
      obtain ⟨M, q1, q2, q3⟩ := fol t (mid + m - b) mid (by omega) t1 t2 (by omega) (by omega) (by omega) t3 t4 (by omega) (by omega)
      refine ⟨M, q1, q2, Ev.succ ?_⟩
      simp only [slices_symMergeCmpFunc_int__split_ranked_1.f, e1, e2, em, e3, e4, if_neg c1, if_neg c2, if_pos c3]
      refine Ev.succ ?_
      simp only [slices_symMergeCmpFunc_int__split_ranked_1.j4, e5]
      exact t5 _ q3
    · obtain ⟨t, t1, t2, t3, t4, t5⟩ := slices_symMergeCmpFunc_int__split_ranked_1.search s lt o P L R T a m b mid (mid + m) a m ha hm hb hL hR hc hs rfl (by omega) (by omega) (by omega) (by omega) (by omega)
      obtain ⟨M, q1, q2, q3⟩ := fol t a m (by omega) t1 t2 (by omega) (by omega) (by omega) t3 t4 (by omega) (by omega)
      refine ⟨M, q1, q2, Ev.succ ?_⟩
      simp only [slices_symMergeCmpFunc_int__split_ranked_1.f, e1, e2, em, e3, e4, if_neg c1, if_neg c2, if_neg c3]
      refine Ev.succ ?_
      simp only [slices_symMergeCmpFunc_int__split_ranked_1.j4, e5]
      exact t5 _ q3
/-- x is x0 block by block: each block a sorted permutation. -/
inductive slices_stableCmpFunc_int__split_ranked_1.Ch (lt : Int → Int → Prop) (bs : Nat) : List Int → List Int → Prop
  | last (x0 x : List Int) : x.length ≤ bs → x.Perm x0 → x.Pairwise lt → slices_stableCmpFunc_int__split_ranked_1.Ch lt bs x0 x
  | cons (b0 b y0 y : List Int) : b.length = bs → b.Perm b0 → b.Pairwise lt → slices_stableCmpFunc_int__split_ranked_1.Ch lt bs y0 y → slices_stableCmpFunc_int__split_ranked_1.Ch lt bs (b0 ++ y0) (b ++ y)
theorem slices_stableCmpFunc_int__split_ranked_1.Ch.perm {lt : Int → Int → Prop} {bs : Nat} {x0 x : List Int} (h : slices_stableCmpFunc_int__split_ranked_1.Ch lt bs x0 x) : x.Perm x0 := by
  induction h with
  | last _ _ _ p _ => exact p
  | cons _ _ _ _ _ p _ _ ih => exact p.append ih
theorem slices_stableCmpFunc_int__split_ranked_1.Ch.small {lt : Int → Int → Prop} {bs : Nat} {x0 x : List Int} (h : slices_stableCmpFunc_int__split_ranked_1.Ch lt bs x0 x) (hb : 0 < bs) (hx : x.length ≤ bs) : x.Pairwise lt := by
  cases h with
  | last _ _ _ _ q => exact q
  | cons b0 b y0 y l p q c =>
    have : y.length = 0 := by rw [List.length_append] at hx; omega
    rw [List.eq_nil_of_length_eq_zero this]
    simpa using q
theorem slices_stableCmpFunc_int__split_ranked_1.ins (s : List Int) (lt : Int → Int → Prop) (o : Tot lt) (bs : Nat) (hbs : 0 < bs) (hbs' : bs < 1000000) : ∀ (N : Nat) (P Y : List Int) (a n : Int), Y.length ≤ N → a = (P.length : Int) → n = a + Y.length → Y.Pairwise (Cm s lt) → (P ++ Y).length < 1000000 →
    ∃ Y', slices_stableCmpFunc_int__split_ranked_1.Ch lt bs Y Y' ∧ ∀ r, Ev (fun k => slices_stableCmpFunc_int__split_ranked_1.l1 k (P ++ Y') n bs s) r → Ev (fun k => slices_stableCmpFunc_int__split_ranked_1.l0 k (P ++ Y) n bs a (a + bs) s) r
  | N, P, Y, a, n, hN, ha, hn, hY, hs => by
    have hs' : P.length + Y.length < 1000000 := by simpa using hs
    by_cases c : a + bs ≤ n
    · obtain ⟨N, rfl⟩ : ∃ M, N = M + 1 := ⟨N - 1, by omega⟩
      obtain ⟨Y1, Y2, rfl, l1, l2⟩ := split_at Y bs (by omega)
      simp only [List.length_append] at hn hN hs'
      obtain ⟨p1, p2, p3⟩ := List.pairwise_append.1 hY
      obtain ⟨M, q1, q2, q3⟩ := slices_insertionSortCmpFunc_int__split_ranked_1.f_sort s lt o a (a + bs) P Y1 Y2 ha (by omega) p1 (by simp only [List.length_append]; omega)
      have hM : M.length = bs := by rw [q1.length_eq]; exact l1
      obtain ⟨Y', r1, r2⟩ := slices_stableCmpFunc_int__split_ranked_1.ins s lt o bs hbs hbs' N (P ++ M) Y2 (a + bs) n (by omega) (by rw [List.length_append]; omega) (by omega) p2 (by simp only [List.length_append]; omega)
      refine ⟨M ++ Y', .cons _ _ _ _ hM q1 q2 r1, fun r h => Ev.succ ?_⟩
      have e1 : wrap64 (a + bs + bs) = a + bs + bs := w64 (by omega) (by omega)
      simp only [slices_stableCmpFunc_int__split_ranked_1.l0, if_pos c, e1]
      refine Ev.bind (a := P ++ M ++ Y2) (by simpa using q3) ?_
      exact r2 r (by simpa using h)
    · obtain ⟨M, q1, q2, q3⟩ := slices_insertionSortCmpFunc_int__split_ranked_1.f_sort s lt o a n P Y [] ha hn hY (by simpa using hs)
      have hM : M.length = Y.length := q1.length_eq
      refine ⟨M, .last _ _ (by omega) q1 q2, fun r h => Ev.succ ?_⟩
      simp only [slices_stableCmpFunc_int__split_ranked_1.l0, if_neg c]
      refine Ev.bind (a := P ++ M) (by simpa using q3) h
theorem slices_stableCmpFunc_int__split_ranked_1.mrg (s : List Int) (lt : Int → Int → Prop) (o : Tot lt) (bs : Nat) (hbs : 0 < bs) (hbs' : bs < 1000000) : ∀ (N : Nat) (P Y0 Y : List Int) (a n : Int), Y.length ≤ N → slices_stableCmpFunc_int__split_ranked_1.Ch lt bs Y0 Y → a = (P.length : Int) → n = a + Y.length → Y0.Pairwise (Cm s lt) → (P ++ Y).length < 1000000 →
    ∃ Y', slices_stableCmpFunc_int__split_ranked_1.Ch lt (2 * bs) Y0 Y' ∧ ∀ r, Ev (fun k => slices_stableCmpFunc_int__split_ranked_1.l1 k (P ++ Y') n ((2 * bs : Nat) : Int) s) r → Ev (fun k => slices_stableCmpFunc_int__split_ranked_1.l2 k (P ++ Y) n bs a (a + 2 * bs) s) r := by
  intro N
  induction N with
  | zero =>
    intro P Y0 Y a n hN hC ha hn hY hs
    obtain rfl : Y = [] := List.eq_nil_of_length_eq_zero (by omega)
    refine ⟨[], .last _ _ (by simp) hC.perm List.Pairwise.nil, fun r h => Ev.succ ?_⟩
    have g : ¬ a + 2 * bs ≤ n := by simp at hn; omega
    have e1 : wrap64 (a + bs) = a + bs := w64 (by simp at hs; omega) (by simp at hs; omega)
    have g2 : ¬ a + bs < n := by simp at hn; omega
    have e2 : wrap64 ((bs : Int) * 2) = ((2 * bs : Nat) : Int) := by rw [w64 (by omega) (by omega)]; omega
    simp only [slices_stableCmpFunc_int__split_ranked_1.l2, if_neg g, e1, if_neg g2, e2]
    exact h
  | succ N ih =>
    intro P Y0 Y a n hN hC ha hn hY hs
    have hs' : P.length + Y.length < 1000000 := by simpa using hs
    have e1 : wrap64 (a + bs) = a + bs := w64 (by omega) (by omega)
    have e2 : wrap64 ((bs : Int) * 2) = ((2 * bs : Nat) : Int) := by rw [w64 (by omega) (by omega)]; omega
    have e3 : wrap64 (2 * (bs : Int)) = 2 * bs := w64 (by omega) (by omega)
    have e4 : wrap64 (a + 2 * bs + 2 * bs) = a + 2 * bs + 2 * bs := w64 (by omega) (by omega)
    cases hC with
    | last _ _ hl hp hq =>
      refine ⟨Y, .last _ _ (by omega) hp hq, fun r h => Ev.succ ?_⟩
      have g : ¬ a + 2 * bs ≤ n := by omega
      have g2 : ¬ a + bs < n := by omega
      simp only [slices_stableCmpFunc_int__split_ranked_1.l2, if_neg g, e1, if_neg g2, e2]
      exact h
    | cons b0 b1 y0 y hl hp hq hC' =>
      rw [List.length_append] at hn hN hs'
      obtain ⟨p1, p2, p3⟩ := List.pairwise_append.1 hY
      cases hC' with
      | last _ _ hl2 hp2 hq2 =>
        by_cases c0 : y.length = 0
        · obtain rfl : y = [] := List.eq_nil_of_length_eq_zero c0
          refine ⟨b1 ++ [], .last _ _ (by simp; omega) (hp.append hp2) (by simpa using hq), fun r h => Ev.succ ?_⟩
          have g : ¬ a + 2 * bs ≤ n := by simp at hn; omega
          have g2 : ¬ a + bs < n := by simp at hn; omega
          simp only [slices_stableCmpFunc_int__split_ranked_1.l2, if_neg g, e1, if_neg g2, e2]
          exact h
        · obtain ⟨M, q1, q2, q3⟩ := slices_symMergeCmpFunc_int__split_ranked_1.merge s lt o (b1.length + y.length) P b1 y [] a (a + bs) n (Nat.le_refl _) (by omega) (by omega) ha (by omega) (by omega) hq hq2 (fun x hx z hz => p3 x (hp.mem_iff.1 hx) z (hp2.mem_iff.1 hz)) (by simp only [List.length_append, List.length_nil]; omega)
          have hM : M.length = b1.length + y.length := by rw [q1.length_eq, List.length_append]
          simp only [List.append_nil] at q3
          refine ⟨M, .last _ _ (by omega) (q1.trans (hp.append hp2)) q2, fun r h => Ev.succ ?_⟩
          by_cases c1 : y.length = bs
          · have g : a + 2 * bs ≤ n := by omega
            have en : n = a + 2 * bs := by omega
            simp only [slices_stableCmpFunc_int__split_ranked_1.l2, if_pos g, e1, e3, e4]
            refine Ev.bind (a := P ++ M) ?_ (Ev.succ ?_)
            · rw [← en]; simpa using q3
            · have g3 : ¬ a + 2 * bs + 2 * bs ≤ n := by omega
              have e5 : wrap64 (a + 2 * bs + bs) = a + 2 * bs + bs := w64 (by omega) (by omega)
              have g4 : ¬ a + 2 * bs + bs < n := by omega
              simp only [slices_stableCmpFunc_int__split_ranked_1.l2, if_neg g3, e5, if_neg g4, e2]
              exact h
          · have g : ¬ a + 2 * bs ≤ n := by omega
            have g2 : a + bs < n := by omega
            simp only [slices_stableCmpFunc_int__split_ranked_1.l2, if_neg g, e1, if_pos g2, e2]
            exact Ev.bind (a := P ++ M) (by simpa using q3) h
      | cons b0' b2 z0 z hl2 hp2 hq2 hC2 =>
        rw [List.length_append] at hn hN hs'
        obtain ⟨p4, p5, p6⟩ := List.pairwise_append.1 p2
        obtain ⟨M, q1, q2, q3⟩ := slices_symMergeCmpFunc_int__split_ranked_1.merge s lt o (b1.length + b2.length) P b1 b2 z a (a + bs) (a + 2 * bs) (Nat.le_refl _) (by omega) (by omega) ha (by omega) (by omega) hq hq2 (fun x hx w hw => p3 x (hp.mem_iff.1 hx) w (List.mem_append_left _ (hp2.mem_iff.1 hw))) (by simp only [List.length_append]; omega)
        have hM : M.length = 2 * bs := by rw [q1.length_eq, List.length_append]; omega
        obtain ⟨Y', r1, r2⟩ := ih (P ++ M) z0 z (a + 2 * bs) n (by omega) hC2 (by rw [List.length_append]; omega) (by omega) p5 (by simp only [List.length_append]; omega)
        refine ⟨M ++ Y', ?_, fun r h => Ev.succ ?_⟩
        · rw [← List.append_assoc]
          exact .cons _ _ _ _ hM (q1.trans (hp.append hp2)) q2 r1
        · have g : a + 2 * bs ≤ n := by omega
          simp only [slices_stableCmpFunc_int__split_ranked_1.l2, if_pos g, e1, e3, e4]
          refine Ev.bind (a := P ++ M ++ z) (by simpa using q3) ?_
          exact r2 r (by simpa using h)
theorem slices_stableCmpFunc_int__split_ranked_1.all (s : List Int) (lt : Int → Int → Prop) (o : Tot lt) (X0 : List Int) (hX : X0.Pairwise (Cm s lt)) : ∀ (N bs : Nat) (X : List Int) (n : Int), n.toNat - bs ≤ N → 0 < bs → bs < 1000000 → slices_stableCmpFunc_int__split_ranked_1.Ch lt bs X0 X → n = X.length → X.length < 400000 →
    ∃ Z, Z.Perm X0 ∧ Z.Pairwise lt ∧ Ev (fun k => slices_stableCmpFunc_int__split_ranked_1.l1 k X n bs s) Z
  | N, bs, X, n, hN, hb, hb', hC, hn, hs => by
    by_cases c : (bs : Int) < n
    · obtain ⟨N, rfl⟩ : ∃ M, N = M + 1 := ⟨N - 1, by omega⟩
      obtain ⟨Y', r1, r2⟩ := slices_stableCmpFunc_int__split_ranked_1.mrg s lt o bs hb hb' X.length [] X0 X 0 n (Nat.le_refl _) hC rfl (by omega) hX (by simp; omega)
      have hl : Y'.length = X.length := by rw [r1.perm.length_eq, hC.perm.length_eq]
      obtain ⟨Z, z1, z2, z3⟩ := slices_stableCmpFunc_int__split_ranked_1.all s lt o X0 hX N (2 * bs) Y' n (by omega) (by omega) (by omega) r1 (by omega) (by omega)
      refine ⟨Z, z1, z2, Ev.succ ?_⟩
      have e3 : wrap64 (2 * (bs : Int)) = 2 * bs := w64 (by omega) (by omega)
      simp only [slices_stableCmpFunc_int__split_ranked_1.l1, if_pos c, e3]
      have z := r2 Z (by simpa using z3)
      simpa using z
    · refine ⟨X, hC.perm, hC.small hb (by omega), Ev.succ ?_⟩
      simp only [slices_stableCmpFunc_int__split_ranked_1.l1, if_neg c]
      exact Ev.const _
/-- THE STABLE SORT: a sorted permutation, if a comparison of a later element with an earlier one is the order's. -/
theorem slices_stableCmpFunc_int__split_ranked_1.f_sort (s : List Int) (lt : Int → Int → Prop) (o : Tot lt) (X : List Int) (hX : X.Pairwise (Cm s lt)) (n : Int) (hn : n = X.length) (hs : X.length < 400000) :
    ∃ Z, Z.Perm X ∧ Z.Pairwise lt ∧ Ev (fun k => slices_stableCmpFunc_int__split_ranked_1.f k X n s) Z := by
  obtain ⟨Y', r1, r2⟩ := slices_stableCmpFunc_int__split_ranked_1.ins s lt o 20 (by omega) (by omega) X.length [] X 0 n (Nat.le_refl _) rfl (by omega) hX (by simp; omega)
  have hl : Y'.length = X.length := r1.perm.length_eq
  obtain ⟨Z, z1, z2, z3⟩ := slices_stableCmpFunc_int__split_ranked_1.all s lt o X hX _ 20 Y' n (Nat.le_refl _) (by omega) (by omega) r1 (by omega) (by omega)
  refine ⟨Z, z1, z2, ?_⟩
  have := r2 Z (by simpa using z3)
  simpa [slices_stableCmpFunc_int__split_ranked_1.f] using this
end Go.Proofs.Ytikglhfeookhaaa.M
end
section
/- The plain arithmetic of the long division of a number of two words by one word, bit by bit. -/
namespace Go.Proofs.Ytikglhfeookhaaa.M.Dv
open Go.RowKit

theorem wrap_u64 (n : Int) : IntKind.u64.wrap n = n % 18446744073709551616 := by simp [IntKind.wrap, IntKind.bits, IntKind.signed]
theorem wraps_u64 (n : Int) (h₀ : 0 ≤ n) (h₁ : n < 2 ^ 64) : IntKind.u64.wrap n = n := by rw [wrap_u64]; omega

/-- What has been divided so far: the remainder that came in, and the upper bits of the word. -/
def yv (R W : Int) (g : Nat) : Int := R * 2 ^ (64 - g) + W / 2 ^ g
/-- The bounds of what comes in. -/
structure Ctx (R W c : Int) : Prop where
  c0 : 0 < c
  c1 : c < 18446744073709551616
  r0 : 0 ≤ R
  r1 : R < c
  w0 : 0 ≤ W
  w1 : W < 18446744073709551616
structure Inv (R W c : Int) (g : Nat) (r q : Int) : Prop where
  le : g ≤ 64
  rr : r = yv R W g % c
  qq : q = yv R W g / c

theorem pow_pos (n : Nat) : (0 : Int) < 2 ^ n := Int.pow_pos (by decide)

theorem half (W : Int) (g : Nat) : W / 2 ^ g = 2 * (W / 2 ^ (g + 1)) + (W / 2 ^ g) % 2 := by
  have h : W / 2 ^ (g + 1) = W / 2 ^ g / 2 := by
    rw [Int.pow_succ, Int.ediv_ediv_of_nonneg (Int.le_of_lt (pow_pos g))]
  rw [h]; omega

theorem yv_step (R W : Int) (g : Nat) (hg : g + 1 ≤ 64) : yv R W g = 2 * yv R W (g + 1) + (W / 2 ^ g) % 2 := by
  unfold yv
  have h1 : 64 - g = (64 - (g + 1)) + 1 := by omega
  rw [h1, Int.pow_succ]
  have h2 := half W g
  generalize (2 : Int) ^ (64 - (g + 1)) = p at *
  have : R * (p * 2) = 2 * (R * p) := by rw [← Int.mul_assoc, Int.mul_comm]
  rw [this]; omega

theorem yv_bound {R W c : Int} (h : Ctx R W c) (g : Nat) (hg : g ≤ 64) : 0 ≤ yv R W g ∧ yv R W g < c * 2 ^ (64 - g) := by
  unfold yv
  have hp := pow_pos g
  have hq := pow_pos (64 - g)
  have e : (2 : Int) ^ (64 - g) * 2 ^ g = 18446744073709551616 := by
    rw [← Int.pow_add]; have : 64 - g + g = 64 := by omega
    rw [this]; decide
  have hw0 : 0 ≤ W / 2 ^ g := Int.ediv_nonneg h.w0 (Int.le_of_lt hp)
  have hw1 : W / 2 ^ g < 2 ^ (64 - g) := by
    apply Int.ediv_lt_of_lt_mul hp
    rw [e]; exact h.w1
  have hr : R * 2 ^ (64 - g) ≤ (c - 1) * 2 ^ (64 - g) := Int.mul_le_mul_of_nonneg_right (by have := h.r1; omega) (Int.le_of_lt hq)
  have hr0 : 0 ≤ R * 2 ^ (64 - g) := Int.mul_nonneg h.r0 (Int.le_of_lt hq)
  have e2 : (c - 1) * 2 ^ (64 - g) = c * 2 ^ (64 - g) - 2 ^ (64 - g) := by rw [Int.sub_mul, Int.one_mul]
  omega

theorem r_bound {R W c : Int} (h : Ctx R W c) {g : Nat} {r q : Int} (i : Inv R W c g r q) : 0 ≤ r ∧ r < c := by
  rw [i.rr]; exact ⟨Int.emod_nonneg _ (by have := h.c0; omega), Int.emod_lt_of_pos _ h.c0⟩
theorem q_bound {R W c : Int} (h : Ctx R W c) {g : Nat} {r q : Int} (i : Inv R W c g r q) : 0 ≤ q ∧ q < 2 ^ (64 - g) := by
  have hb := yv_bound h g i.le
  rw [i.qq]
  refine ⟨Int.ediv_nonneg hb.1 (Int.le_of_lt h.c0), ?_⟩
  apply Int.ediv_lt_of_lt_mul h.c0
  rw [Int.mul_comm]; exact hb.2
theorem y_eq {R W c : Int} {g : Nat} {r q : Int} (i : Inv R W c g r q) : yv R W g = r + c * q := by
  rw [i.rr, i.qq]; exact (Int.emod_add_mul_ediv _ _).symm

theorem start {R W c : Int} (h : Ctx R W c) : Inv R W c 64 R 0 := by
  have : yv R W 64 = R := by
    unfold yv
    have := h.w0; have := h.w1
    simp; omega
  exact ⟨Nat.le_refl _, by rw [this, Int.emod_eq_of_lt h.r0 h.r1], by rw [this, Int.ediv_eq_zero_of_lt h.r0 h.r1]⟩

theorem bit_eq (x : Int) (h0 : 0 ≤ x) (h1 : x < 18446744073709551616) : bits .and .u64 x 1 = x % 2 :=
  bits_mask .u64 64 (by decide) wraps_u64 1 (by decide) x h0 (by simpa using h1)
theorem or_eq (x y : Int) (h0 : 0 ≤ x) (hx : x % 2 = 0) (h1 : x < 18446744073709551616) (hy0 : 0 ≤ y) (hy : y < 2) : bits .or .u64 x y = x + y :=
  bits_join .u64 64 (by decide) wraps_u64 1 x y h0 (by omega) (by omega) hy0 (by omega) (by omega)

theorem word_bound {R W c : Int} (h : Ctx R W c) (g : Nat) : 0 ≤ W / 2 ^ g ∧ W / 2 ^ g < 18446744073709551616 := by
  have hp := pow_pos g
  refine ⟨Int.ediv_nonneg h.w0 (Int.le_of_lt hp), ?_⟩
  apply Int.ediv_lt_of_lt_mul hp
  have := h.w1
  have h2 : (18446744073709551616 : Int) * 1 ≤ 18446744073709551616 * 2 ^ g := Int.mul_le_mul_of_nonneg_left (by omega) (by decide)
  omega

/-- The remainder, doubled, with the next bit. -/
theorem next_v {R W c : Int} (h : Ctx R W c) {g : Nat} {r q : Int} (i : Inv R W c (g + 1) r q) :
    bits .or .u64 (IntKind.u64.wrap (r * 2)) (bits .and .u64 (W / 2 ^ g) 1) = (r * 2) % 18446744073709551616 + (W / 2 ^ g) % 2 := by
  have hw := word_bound h g
  rw [bit_eq _ hw.1 hw.2, wrap_u64]
  have := r_bound h i
  exact or_eq _ _ (by omega) (by omega) (by omega) (by omega) (by omega)

theorem next {R W c : Int} (h : Ctx R W c) {g : Nat} {r q : Int} (i : Inv R W c (g + 1) r q) {r' q' : Int}
    (hr : r' + c * q' = 2 * r + (W / 2 ^ g) % 2 + c * (2 * q)) (h0 : 0 ≤ r') (h1 : r' < c) : Inv R W c g r' q' := by
  have hy := y_eq i
  have hs := yv_step R W g i.le
  have hu : r' + c * q' = yv R W g := by
    rw [hs, hy, hr]
    have : c * (2 * q) = 2 * (c * q) := by rw [← Int.mul_assoc, Int.mul_comm c 2, Int.mul_assoc]
    rw [this]; omega
  have := (Int.ediv_emod_unique (a := yv R W g) (b := c) (r := r') (q := q') h.c0).2 ⟨hu, h0, h1⟩
  exact ⟨by have := i.le; omega, this.2.symm, this.1.symm⟩

theorem q2 {R W c : Int} (h : Ctx R W c) {g : Nat} {r q : Int} (i : Inv R W c (g + 1) r q) : 0 ≤ q ∧ q * 2 < 18446744073709551616 ∧ IntKind.u64.wrap (q * 2) = q * 2 := by
  have hq := q_bound h i
  have : (2 : Int) ^ (64 - (g + 1)) ≤ 2 ^ 63 := by
    have hn : (2 : Nat) ^ (64 - (g + 1)) ≤ 2 ^ 63 := Nat.pow_le_pow_right (by decide) (by omega)
    exact_mod_cast hn
  have e : (2 : Int) ^ 63 = 9223372036854775808 := by decide
  refine ⟨hq.1, by omega, ?_⟩
  rw [wrap_u64]; omega

/-- A one: the divisor fits. -/
theorem one {R W c : Int} (h : Ctx R W c) {g : Nat} {r q : Int} (i : Inv R W c (g + 1) r q)
    (hc : 9223372036854775808 ≤ r ∨ c ≤ (r * 2) % 18446744073709551616 + (W / 2 ^ g) % 2) :
    Inv R W c g (IntKind.u64.wrap (bits .or .u64 (IntKind.u64.wrap (r * 2)) (bits .and .u64 (W / 2 ^ g) 1) - c)) (bits .or .u64 (IntKind.u64.wrap (q * 2)) 1) := by
  rw [next_v h i, wrap_u64]
  obtain ⟨q0, q1, q2⟩ := q2 h i
  rw [q2, or_eq _ _ (by omega) (by omega) (by omega) (by omega) (by omega)]
  have hr := r_bound h i
  have := h.c0; have := h.c1
  generalize hb : (W / 2 ^ g) % 2 = b at *
  have hb2 : b = 0 ∨ b = 1 := by omega
  have e : (r * 2 % 18446744073709551616 + b - c) % 18446744073709551616 = r * 2 + b - c := by omega
  rw [e]
  refine next h i ?_ (by omega) (by omega)
  rw [hb, Int.mul_add, Int.mul_one, Int.mul_comm q 2]; omega
/-- A zero: it doesn't. -/
theorem zero {R W c : Int} (h : Ctx R W c) {g : Nat} {r q : Int} (i : Inv R W c (g + 1) r q)
    (h2 : r < 9223372036854775808) (hc : (r * 2) % 18446744073709551616 + (W / 2 ^ g) % 2 < c) :
    Inv R W c g (bits .or .u64 (IntKind.u64.wrap (r * 2)) (bits .and .u64 (W / 2 ^ g) 1)) (IntKind.u64.wrap (q * 2)) := by
  rw [next_v h i]
  obtain ⟨q0, q1, q2⟩ := q2 h i
  rw [q2]
  have hr := r_bound h i
  have := h.c0; have := h.c1
  generalize hb : (W / 2 ^ g) % 2 = b at *
  have hb2 : b = 0 ∨ b = 1 := by omega
  have e : r * 2 % 18446744073709551616 + b = r * 2 + b := by omega
  rw [e] at hc ⊢
  refine next h i ?_ (by omega) (by omega)
  rw [hb, Int.mul_comm q 2]; omega
/-- Nothing is left. -/
theorem rest {R W c : Int} (h : Ctx R W c) {g : Nat} {q : Int} (i : Inv R W c (g + 1) 0 q) (hz : IntKind.u64.wrap (W * 2 ^ (63 - g)) = 0) :
    Inv R W c 0 0 (IntKind.u64.wrap (q * 2 ^ (g + 1))) := by
  have hy := y_eq i
  have hp := pow_pos (g + 1)
  have hle := i.le
  rw [wrap_u64] at hz
  have e : (2 : Int) ^ (63 - g) * 2 ^ (g + 1) = 18446744073709551616 := by
    rw [← Int.pow_add]; have : 63 - g + (g + 1) = 64 := by omega
    rw [this]; decide
  have hd : W % 2 ^ (g + 1) = 0 := by
    obtain ⟨k, hk⟩ := Int.dvd_of_emod_eq_zero hz
    rw [← e, Int.mul_assoc, Int.mul_comm W] at hk
    have := Int.eq_of_mul_eq_mul_left (by have := pow_pos (63 - g); omega) hk
    rw [this]; exact Int.mul_emod_right _ _
  have hW : W = 2 ^ (g + 1) * (W / 2 ^ (g + 1)) := by have := Int.emod_add_mul_ediv W (2 ^ (g + 1)); omega
  have e64 : (2 : Int) ^ (64 - (g + 1)) * 2 ^ (g + 1) = 18446744073709551616 := by
    rw [← Int.pow_add]; have : 64 - (g + 1) + (g + 1) = 64 := by omega
    rw [this]; decide
  have h0 : yv R W 0 = c * (q * 2 ^ (g + 1)) := by
    have : yv R W 0 = 2 ^ (g + 1) * yv R W (g + 1) := by
      unfold yv
      rw [Int.mul_add, ← hW]
      have : (2 : Int) ^ (g + 1) * (R * 2 ^ (64 - (g + 1))) = R * 18446744073709551616 := by
        rw [← e64, Int.mul_comm, Int.mul_assoc]
      rw [this]; simp
    rw [this, hy, Int.zero_add, Int.mul_comm, Int.mul_assoc]
  have hq := q_bound h i
  have hlt : q * 2 ^ (g + 1) < 18446744073709551616 := by
    rw [← e64]; exact Int.mul_lt_mul_of_pos_right hq.2 hp
  have hge : 0 ≤ q * 2 ^ (g + 1) := Int.mul_nonneg hq.1 (Int.le_of_lt hp)
  rw [wrap_u64, Int.emod_eq_of_lt hge hlt]
  have hc := h.c0
  exact ⟨by omega, by rw [h0, Int.mul_emod_right], by rw [h0, Int.mul_ediv_cancel_left _ (by omega)]⟩
theorem fin {R W c : Int} {r q : Int} (i : Inv R W c 0 r q) (_h : Ctx R W c) : r = (R * 18446744073709551616 + W) % c ∧ q = (R * 18446744073709551616 + W) / c := by
  have : yv R W 0 = R * 18446744073709551616 + W := by unfold yv; simp
  exact ⟨by rw [i.rr, this], by rw [i.qq, this]⟩

/-- The upper word of the quotient, the lower one, the remainder. -/
def qh (a0 c : Int) : Int := a0 / c
def ql (a0 a1 c : Int) : Int := (a0 % c * 18446744073709551616 + a1) / c
def rm (a0 a1 c : Int) : Int := (a0 % c * 18446744073709551616 + a1) % c
/-! The product of two words, by halves. -/
theorem mask_eq (x : Int) (h0 : 0 ≤ x) (h1 : x < 18446744073709551616) : bits .and .u64 x 4294967295 = x % 4294967296 :=
  bits_mask .u64 64 (by decide) wraps_u64 32 (by decide) x h0 (by omega)
theorem or32_eq (x y : Int) (h0 : 0 ≤ x) (hx : x % 4294967296 = 0) (h1 : x < 18446744073709551616) (hy0 : 0 ≤ y) (hy : y < 4294967296) : bits .or .u64 x y = x + y :=
  bits_join .u64 64 (by decide) wraps_u64 32 x y h0 (by omega) (by omega) hy0 (by omega) (by omega)
def mbot (a b : Int) : Int := IntKind.u64.wrap (bits .and .u64 a 4294967295 * bits .and .u64 b 4294967295)
def mmid (a b : Int) : Int := IntKind.u64.wrap (IntKind.u64.wrap (a / 4294967296 * bits .and .u64 b 4294967295) + mbot a b / 4294967296)
def moth (a b : Int) : Int := IntKind.u64.wrap (IntKind.u64.wrap (bits .and .u64 a 4294967295 * (b / 4294967296)) + bits .and .u64 (mmid a b) 4294967295)
def mhi (a b : Int) : Int := IntKind.u64.wrap (IntKind.u64.wrap (IntKind.u64.wrap (a / 4294967296 * (b / 4294967296)) + mmid a b / 4294967296) + moth a b / 4294967296)
def mlo (a b : Int) : Int := bits .or .u64 (IntKind.u64.wrap (moth a b * 4294967296)) (bits .and .u64 (mbot a b) 4294967295)
theorem prod_le (x y : Int) (h0 : 0 ≤ x) (h1 : x < 4294967296) (h2 : 0 ≤ y) (h3 : y < 4294967296) : 0 ≤ x * y ∧ x * y ≤ 18446744065119617025 := by
  refine ⟨Int.mul_nonneg h0 h2, ?_⟩
  have h4 : x * y ≤ 4294967295 * y := Int.mul_le_mul_of_nonneg_right (by omega) h2
  omega
theorem mul_words (a b : Int) (ha0 : 0 ≤ a) (ha1 : a < 18446744073709551616) (hb0 : 0 ≤ b) (hb1 : b < 18446744073709551616) :
    mhi a b = a * b / 18446744073709551616 ∧ mlo a b = a * b % 18446744073709551616 := by
  have e : a * b = (a / 4294967296) * (b / 4294967296) * 18446744073709551616 + ((a / 4294967296) * (b % 4294967296) + (a % 4294967296) * (b / 4294967296)) * 4294967296 + (a % 4294967296) * (b % 4294967296) := by
    have h1 : a = a / 4294967296 * 4294967296 + a % 4294967296 := by omega
    have h2 : b = b / 4294967296 * 4294967296 + b % 4294967296 := by omega
    generalize a / 4294967296 = x at *
    generalize b / 4294967296 = u at *
    generalize a % 4294967296 = y at *
    generalize b % 4294967296 = v at *
    subst h1 h2
    rw [Int.add_mul, Int.mul_add, Int.mul_add]
    have e1 : x * 4294967296 * (u * 4294967296) = x * u * 18446744073709551616 := by rw [Int.mul_assoc x, Int.mul_left_comm 4294967296 u, ← Int.mul_assoc x]; rfl
    have e2 : x * 4294967296 * v = x * v * 4294967296 := Int.mul_right_comm _ _ _
    have e3 : y * (u * 4294967296) = y * u * 4294967296 := (Int.mul_assoc _ _ _).symm
    rw [e1, e2, e3]; omega
  have hm := mask_eq a ha0 ha1
  have hn := mask_eq b hb0 hb1
  have p1 := prod_le (a / 4294967296) (b / 4294967296) (by omega) (by omega) (by omega) (by omega)
  have p2 := prod_le (a / 4294967296) (b % 4294967296) (by omega) (by omega) (by omega) (by omega)
  have p3 := prod_le (a % 4294967296) (b / 4294967296) (by omega) (by omega) (by omega) (by omega)
  have p4 := prod_le (a % 4294967296) (b % 4294967296) (by omega) (by omega) (by omega) (by omega)
  have hbot : mbot a b = (a % 4294967296) * (b % 4294967296) := by
    unfold mbot; rw [hm, hn, wrap_u64]; omega
  have hmid : mmid a b = (a / 4294967296) * (b % 4294967296) + (a % 4294967296) * (b % 4294967296) / 4294967296 := by
    unfold mmid; rw [hbot, hn, wrap_u64, wrap_u64]; omega
  have hk := mask_eq (mmid a b) (by omega) (by omega)
  have hoth : moth a b = (a % 4294967296) * (b / 4294967296) + mmid a b % 4294967296 := by
    unfold moth; rw [hk, hm, wrap_u64, wrap_u64]; omega
  have hl := mask_eq (mbot a b) (by omega) (by omega)
  refine ⟨?_, ?_⟩
  · unfold mhi
    rw [wrap_u64, wrap_u64, wrap_u64, e]
    generalize (a / 4294967296) * (b / 4294967296) = P1 at *
    generalize (a / 4294967296) * (b % 4294967296) = P2 at *
    generalize (a % 4294967296) * (b / 4294967296) = P3 at *
    generalize (a % 4294967296) * (b % 4294967296) = P4 at *
    clear e hl hk hm hn
    generalize mmid a b = M at *
    generalize moth a b = O at *
    have e1 : (P1 * 18446744073709551616 + (P2 + P3) * 4294967296 + P4) / 18446744073709551616 = P1 + M / 4294967296 + O / 4294967296 := by omega
    have hM : 0 ≤ M / 4294967296 ∧ M / 4294967296 ≤ 4294967294 := by omega
    have hO : 0 ≤ O / 4294967296 ∧ O / 4294967296 ≤ 4294967295 := by omega
    rw [e1]
    clear e1 hmid hoth hbot
    generalize M / 4294967296 = m1 at *
    generalize O / 4294967296 = o1 at *
    rw [Int.emod_eq_of_lt p1.1 (by omega), Int.emod_eq_of_lt (by omega) (by omega), Int.emod_eq_of_lt (by omega) (by omega)]
  · unfold mlo
    rw [hl, wrap_u64, or32_eq _ _ (by omega) (by omega) (by omega) (by omega) (by omega), e]; omega
theorem mul_bounds (a b : Int) (ha0 : 0 ≤ a) (ha1 : a < 18446744073709551616) (hb0 : 0 ≤ b) (hb1 : b < 18446744073709551616) :
    0 ≤ a * b / 18446744073709551616 ∧ a * b / 18446744073709551616 < 18446744073709551616 := by
  refine ⟨Int.ediv_nonneg (Int.mul_nonneg ha0 hb0) (by decide), ?_⟩
  apply Int.ediv_lt_of_lt_mul (by decide)
  have h1 : a * b ≤ 18446744073709551615 * b := Int.mul_le_mul_of_nonneg_right (by omega) hb0
  omega
/-! What MulDiv, Mod and Cmp come to. -/
def inI (x : Int) : Prop := -9223372036854775808 ≤ x ∧ x ≤ 9223372036854775807
instance (x : Int) : Decidable (inI x) := by unfold inI; infer_instance
def ab (x : Int) : Int := if x < 0 then -x else x
theorem ab_bound {x : Int} (h : inI x) : 0 ≤ ab x ∧ ab x ≤ 9223372036854775808 := by
  unfold ab; unfold inI at h; split <;> omega
theorem ab_pos {x : Int} (h : x ≠ 0) : 0 < ab x := by unfold ab; split <;> omega
theorem ab_zero (x : Int) : ab x = 0 ↔ x = 0 := by unfold ab; split <;> omega
/-- Is the result rounded away from zero? -/
def awayv (mode : Int) (neg : Bool) (q r c : Int) : Bool :=
  decide (r ≠ 0) && (decide (mode = 2) || (decide (mode = 3) && decide (c - r ≤ r)) || (decide (mode = 4) && (decide (c - r < r) || (decide (r = c - r) && decide (q % 2 = 1)))) || (decide (mode = 5) && neg))
def negv (a b c : Int) : Bool := (decide (a * b ≠ 0)) && (((decide (a < 0)) != (decide (b < 0))) != (decide (c < 0)))
def sizev (a b c mode : Int) : Int := ab a * ab b / ab c + if awayv mode (negv a b c) (ab a * ab b / ab c) (ab a * ab b % ab c) (ab c) = true then 1 else 0
def signv (neg : Bool) (size : Int) : Int × Int :=
  if neg = true then (if size > 9223372036854775808 then (0, 4) else (-size, 0)) else (if size ≥ 9223372036854775808 then (0, 4) else (size, 0))
def mdv (a b c mode : Int) : Int × Int :=
  if mode < 1 ∨ mode > 5 then (0, 10) else if c = 0 then (0, 2) else signv (negv a b c) (sizev a b c mode)
def modv (a b c : Int) : Int × Int := if c = 0 then (0, 2) else ((a * b) % ab c, 0)

/-- The two words of a product, divided by a word. -/
theorem div_words (P c : Int) (_h0 : 0 ≤ P) (hc : 0 < c) :
    qh (P / 18446744073709551616) c * 18446744073709551616 + ql (P / 18446744073709551616) (P % 18446744073709551616) c = P / c ∧ rm (P / 18446744073709551616) (P % 18446744073709551616) c = P % c := by
  unfold qh ql rm
  have hP : P = (P / 18446744073709551616) * 18446744073709551616 + P % 18446744073709551616 := by omega
  generalize P / 18446744073709551616 = hi at *
  generalize P % 18446744073709551616 = lo at *
  have hh : hi = c * (hi / c) + hi % c := by have := Int.emod_add_mul_ediv hi c; omega
  have e : P = c * (hi / c * 18446744073709551616) + (hi % c * 18446744073709551616 + lo) := by
    rw [hP]
    conv => lhs; rw [hh]
    rw [Int.add_mul, ← Int.mul_assoc]; omega
  rw [e]
  refine ⟨?_, ?_⟩
  · rw [Int.add_comm (c * _), Int.add_mul_ediv_left _ _ (by omega)]; omega
  · rw [Int.mul_add_emod_self_left]
theorem qh_zero (P c : Int) (h0 : 0 ≤ P) (hc : 0 < c) : qh (P / 18446744073709551616) c = 0 ↔ P / c < 18446744073709551616 := by
  have h := (div_words P c h0 hc).1
  have h1 : 0 ≤ qh (P / 18446744073709551616) c := Int.ediv_nonneg (by omega) (by omega)
  have h2 : 0 ≤ ql (P / 18446744073709551616) (P % 18446744073709551616) c ∧ ql (P / 18446744073709551616) (P % 18446744073709551616) c < 18446744073709551616 := by
    unfold ql
    have h3 := Int.emod_nonneg (P / 18446744073709551616) (show c ≠ 0 by omega)
    have h4 := Int.emod_lt_of_pos (P / 18446744073709551616) hc
    refine ⟨Int.ediv_nonneg (by omega) (by omega), ?_⟩
    apply Int.ediv_lt_of_lt_mul hc
    omega
  omega
theorem ctx0 {P c : Int} (h0 : 0 ≤ P) (h1 : P < 18446744073709551616 * 18446744073709551616) (hc : 0 < c) (hc1 : c < 18446744073709551616) : Ctx 0 (P / 18446744073709551616) c ∧ Ctx (P / 18446744073709551616 % c) (P % 18446744073709551616) c :=
  ⟨⟨hc, hc1, by omega, hc, by omega, by omega⟩, ⟨hc, hc1, Int.emod_nonneg _ (by omega), Int.emod_lt_of_pos _ hc, by omega, by omega⟩⟩
theorem prod_ab {a b : Int} (ha : inI a) (hb : inI b) : 0 ≤ ab a * ab b ∧ ab a * ab b < 18446744073709551616 * 18446744073709551616 := by
  have h1 := ab_bound ha; have h2 := ab_bound hb
  refine ⟨Int.mul_nonneg h1.1 h2.1, ?_⟩
  have h4 : ab a * ab b ≤ 9223372036854775808 * ab b := Int.mul_le_mul_of_nonneg_right h1.2 h2.1
  omega
end Go.Proofs.Ytikglhfeookhaaa.M.Dv
end
section
/- muldiv.divide: the quotient and the remainder of a number of two words by a word other than 0, for all words. -/
namespace Go.Proofs.Ytikglhfeookhaaa.M
open Go.RowKit Go.Proofs.YtikglhfeookhaaaW.PrintWords Go.Proofs.YtikglhfeookhaaaW.PrintLast Go.Proofs.YtikglhfeookhaaaW.PrintMore
set_option linter.unusedVariables false

/-- What stands at the head of the outer loop. -/
def muldiv_divide.Out (a0 a1 c : Int) (i r q0 q1 : Int) : Prop :=
  (i = 0 ∧ r = 0 ∧ q0 = 0 ∧ q1 = 0) ∨ (i = 1 ∧ r = a0 % c ∧ q0 = Dv.qh a0 c ∧ q1 = 0) ∨ (i = 2 ∧ r = Dv.rm a0 a1 c ∧ q0 = Dv.qh a0 c ∧ q1 = Dv.ql a0 a1 c)

theorem muldiv_divide.w63 (g : Nat) (h : g ≤ 63) : (63 - (g : Int)).toNat = 63 - g := by omega

set_option maxHeartbeats 4000000 in
set_option maxRecDepth 100000 in
theorem muldiv_divide.calls0 (a0 a1 c : Int) (w : World) (hx : 0 < c) (H0 : Aside0 (Dv.Ctx 0 a0 c)) (H1 : Aside0 (Dv.Ctx (a0 % c) a1 c)) :
    Calls Try.prog 42 #[.agg #[.int .u64 a0, .int .u64 a1], .int .u64 c] w fun e w' => e = .returned (.tuple #[.agg #[.int .u64 (Dv.qh a0 c), .int .u64 (Dv.ql a0 a1 c)], .int .u64 (Dv.rm a0 a1 c)]) ∧ Below w.heap.size w w' := by
  have i0 : ∀ W, (Instr.index 50 (.agg #[.int .u64 a0, .int .u64 a1]) (.int .i64 0)).run Try.prog W = .ok (.int .u64 a0) W := fun _ => by kernel_rfl
  have i1 : ∀ W, (Instr.index 50 (.agg #[.int .u64 a0, .int .u64 a1]) (.int .i64 1)).run Try.prog W = .ok (.int .u64 a1) W := fun _ => by kernel_rfl
  have hw0 : 0 ≤ a0 := H0.out.w0
  have hw1 : 0 ≤ a1 := H1.out.w0
  go_enter Try.func42, Try.ntmps42
  go_wp2
  go_step3
  go_wp2
  go_step3
  go_wp2
  go_loopg [5, 11] 2 (fun g s5 s11 wr => ∃ (i r q0 q1 : Int), i + g = 2 ∧ s11 = .int .i64 i ∧ s5 = .int .u64 r ∧ Aside0 (wr.heap[w.heap.size+1]? = some (.cells #[.int .u64 q0, .int .u64 q1] 50 (0, 0))) ∧ Aside0 (Below w.heap.size w wr) ∧ Aside0 (muldiv_divide.Out a0 a1 c i r q0 q1))
  case atStart => exact ⟨0, 0, 0, 0, rfl, rfl, rfl, ⟨by have := blk_new (w.alloc (.cells #[.int .u64 a0, .int .u64 a1] 50)) (.cells #[.int .u64 0, .int .u64 0] 50); simpa using this⟩, ⟨((Below.refl _ _).alloc (Nat.le_refl _) _).alloc (by simp) _⟩, ⟨.inl ⟨rfl, rfl, rfl, rfl⟩⟩⟩
  case round =>
    obtain ⟨i, r, q0, q1, hig, rfl, rfl, hq, hb, HO⟩ := hrel
    have hi : i = 0 ∨ i = 1 ∨ i = 2 := by rcases HO.out with h | h | h <;> omega
    rcases hi with rfl | rfl | rfl
    · obtain rfl : gk = 2 := by omega
      have HI : Aside0 (Dv.Inv 0 a0 c 64 r q0) := ⟨by
        rcases HO.out with h | h | h
        · obtain ⟨_, rfl, h3, h4⟩ := h; rw [h3]; exact Dv.start H0.out
        · omega
        · omega⟩
      have HQ : Aside0 (q1 = 0) := ⟨by
        rcases HO.out with h | h | h
        · exact h.2.2.2
        · omega
        · omega⟩
      clear HO hig
      go_wp2
      go_loopg [5, 8] 64 (fun g2 s5 s8 wy => ∃ (r q : Int), s8 = .int .i64 ((g2 : Int) - 1) ∧ s5 = .int .u64 r ∧ 0 ≤ r ∧ Aside0 (wy.heap[w.heap.size+1]? = some (.cells #[.int .u64 q, .int .u64 q1] 50 (0, 0))) ∧ Aside0 (Below w.heap.size w wy) ∧ Aside0 (Dv.Inv 0 a0 c g2 r q))
      case atStart => exact ⟨r, q0, rfl, rfl, (Dv.r_bound H0.out HI.out).1, hq, hb, HI⟩
      case round =>
        clear hq hb HI
        obtain ⟨r, q, rfl, rfl, hr0, hq, hb, HI⟩ := hrel
        have c0 := blk_cell hq.out 0
        have f0 := blk_frozen hq.out 0
        simp at c0
        cases gk with
        | zero =>
          go_wp2
          go_roundg 1
          case measure => omega
          case rel => exact ⟨1, r, q, q1, rfl, rfl, rfl, hq, hb, ⟨.inr (.inl ⟨rfl, by have := (Dv.fin HI.out H0.out).1; simpa using this, by have := (Dv.fin HI.out H0.out).2; simpa [Dv.qh] using this, HQ.out⟩)⟩⟩
        | succ g =>
          have eb : ((g + 1 : Nat) : Int) - 1 = g := by omega
          rw [eb]
          have hg63 : g ≤ 63 := by have := HI.out.le; omega
          by_cases hr : r = 0
          · subst hr
            by_cases hs : IntKind.u64.wrap (a0 * 2 ^ (63 - g)) = 0
            · have hsb : (IntKind.u64.wrap (a0 * 2 ^ (63 - g)) == 0) = true := beq_iff_eq.2 hs
              have I2 := Dv.rest H0.out HI.out hs
              have HI2 := Aside0.mk I2
              clear hs I2
              have e63 := muldiv_divide.w63 g hg63
              have e1 : ((g : Int) + 1).toNat = g + 1 := by omega
              go_wp2
              go_roundg 1
              case measure => omega
              case rel => exact ⟨1, 0, _, q1, rfl, rfl, rfl, ⟨blk_put hq.out 0 _ rfl⟩, ⟨below_set hb.out (by omega)⟩, ⟨.inr (.inl ⟨rfl, by have := (Dv.fin HI2.out H0.out).1; simpa using this, by have := (Dv.fin HI2.out H0.out).2; simpa [Dv.qh] using this, HQ.out⟩)⟩⟩
            · have hsb : (IntKind.u64.wrap (a0 * 2 ^ (63 - g)) == 0) = false := beq_eq_false_iff_ne.2 hs
              have e63 := muldiv_divide.w63 g hg63
              by_cases ht : c ≤ bits .or .u64 0 (bits .and .u64 (a0 / 2 ^ g) 1)
              · have I2 := Dv.one H0.out HI.out (.inr (by rw [← Dv.next_v H0.out HI.out]; exact ht))
                rw [show IntKind.u64.wrap ((0 : Int) * 2) = 0 from by decide] at I2
                have HI2 := Aside0.mk I2
                clear hs I2
                go_wp2
                go_roundg g
                case measure => omega
                case rel => exact ⟨_, _, by go_num, rfl, (Dv.r_bound H0.out HI2.out).1, ⟨blk_put (blk_put hq.out 0 _ rfl) 0 _ rfl⟩, ⟨below_set (below_set hb.out (by omega)) (by omega)⟩, HI2⟩
              · have I2 := Dv.zero H0.out HI.out (by omega) (by rw [← Dv.next_v H0.out HI.out]; exact Int.lt_of_not_ge ht)
                rw [show IntKind.u64.wrap ((0 : Int) * 2) = 0 from by decide] at I2
                have HI2 := Aside0.mk I2
                clear hs I2
                go_wp2
                go_roundg g
                case measure => omega
                case rel => exact ⟨_, _, by go_num, rfl, (Dv.r_bound H0.out HI2.out).1, ⟨blk_put hq.out 0 _ rfl⟩, ⟨below_set hb.out (by omega)⟩, HI2⟩
          · have hrb : (r == 0) = false := beq_eq_false_iff_ne.2 hr
            by_cases hk : r / 9223372036854775808 = 1
            · have hkb : (r / 9223372036854775808 == 1) = true := beq_iff_eq.2 hk
              have I2 := Dv.one H0.out HI.out (.inl (by omega))
              have HI2 := Aside0.mk I2
              clear hr hk I2
              go_wp2
              go_roundg g
              case measure => omega
              case rel => exact ⟨_, _, by go_num, rfl, (Dv.r_bound H0.out HI2.out).1, ⟨blk_put (blk_put hq.out 0 _ rfl) 0 _ rfl⟩, ⟨below_set (below_set hb.out (by omega)) (by omega)⟩, HI2⟩
            · have hkb : (r / 9223372036854775808 == 1) = false := beq_eq_false_iff_ne.2 hk
              have hlt : r < 9223372036854775808 := by have := (Dv.r_bound H0.out HI.out).2; have := H0.out.c1; omega
              by_cases ht : c ≤ bits .or .u64 (IntKind.u64.wrap (r * 2)) (bits .and .u64 (a0 / 2 ^ g) 1)
              · have I2 := Dv.one H0.out HI.out (.inr (by rw [← Dv.next_v H0.out HI.out]; exact ht))
                have HI2 := Aside0.mk I2
                have htb : decide (bits .or .u64 (IntKind.u64.wrap (r * 2)) (bits .and .u64 (a0 / 2 ^ g) 1) ≥ c) = true := decide_eq_true ht
                clear hr hk I2 hlt ht
                go_wp2
                go_roundg g
                case measure => omega
                case rel => exact ⟨_, _, by go_num, rfl, (Dv.r_bound H0.out HI2.out).1, ⟨blk_put (blk_put hq.out 0 _ rfl) 0 _ rfl⟩, ⟨below_set (below_set hb.out (by omega)) (by omega)⟩, HI2⟩
              · have I2 := Dv.zero H0.out HI.out hlt (by rw [← Dv.next_v H0.out HI.out]; exact Int.lt_of_not_ge ht)
                have HI2 := Aside0.mk I2
                have htb : decide (bits .or .u64 (IntKind.u64.wrap (r * 2)) (bits .and .u64 (a0 / 2 ^ g) 1) ≥ c) = false := decide_eq_false ht
                clear hr hk I2 hlt ht
                go_wp2
                go_roundg g
                case measure => omega
                case rel => exact ⟨_, _, by go_num, rfl, (Dv.r_bound H0.out HI2.out).1, ⟨blk_put hq.out 0 _ rfl⟩, ⟨below_set hb.out (by omega)⟩, HI2⟩
    · obtain rfl : gk = 1 := by omega
      have HI : Aside0 (Dv.Inv (a0 % c) a1 c 64 r q1) := ⟨by
        rcases HO.out with h | h | h
        · omega
        · obtain ⟨_, rfl, h3, h4⟩ := h; rw [h4]; exact Dv.start H1.out
        · omega⟩
      have HQ : Aside0 (q0 = Dv.qh a0 c) := ⟨by
        rcases HO.out with h | h | h
        · omega
        · exact h.2.2.1
        · omega⟩
      clear HO hig
      go_wp2
      go_loopg [5, 8] 64 (fun g2 s5 s8 wy => ∃ (r q : Int), s8 = .int .i64 ((g2 : Int) - 1) ∧ s5 = .int .u64 r ∧ 0 ≤ r ∧ Aside0 (wy.heap[w.heap.size+1]? = some (.cells #[.int .u64 q0, .int .u64 q] 50 (0, 0))) ∧ Aside0 (Below w.heap.size w wy) ∧ Aside0 (Dv.Inv (a0 % c) a1 c g2 r q))
      case atStart => exact ⟨r, q1, rfl, rfl, (Dv.r_bound H1.out HI.out).1, hq, hb, HI⟩
      case round =>
        clear hq hb HI
        obtain ⟨r, q, rfl, rfl, hr0, hq, hb, HI⟩ := hrel
        have c0 := blk_cell hq.out 1
        have f0 := blk_frozen hq.out 1
        simp at c0
        cases gk with
        | zero =>
          go_wp2
          go_roundg 0
          case measure => omega
          case rel => exact ⟨2, r, q0, q, rfl, rfl, rfl, hq, hb, ⟨.inr (.inr ⟨rfl, (Dv.fin HI.out H1.out).1, HQ.out, (Dv.fin HI.out H1.out).2⟩)⟩⟩
        | succ g =>
          have eb : ((g + 1 : Nat) : Int) - 1 = g := by omega
          rw [eb]
          have hg63 : g ≤ 63 := by have := HI.out.le; omega
          by_cases hr : r = 0
          · subst hr
            by_cases hs : IntKind.u64.wrap (a1 * 2 ^ (63 - g)) = 0
            · have hsb : (IntKind.u64.wrap (a1 * 2 ^ (63 - g)) == 0) = true := beq_iff_eq.2 hs
              have I2 := Dv.rest H1.out HI.out hs
              have HI2 := Aside0.mk I2
              clear hs I2
              have e63 := muldiv_divide.w63 g hg63
              have e1 : ((g : Int) + 1).toNat = g + 1 := by omega
              go_wp2
              go_roundg 0
              case measure => omega
              case rel => exact ⟨2, 0, q0, _, rfl, rfl, rfl, ⟨blk_put hq.out 1 _ rfl⟩, ⟨below_set hb.out (by omega)⟩, ⟨.inr (.inr ⟨rfl, (Dv.fin HI2.out H1.out).1, HQ.out, (Dv.fin HI2.out H1.out).2⟩)⟩⟩
            · have hsb : (IntKind.u64.wrap (a1 * 2 ^ (63 - g)) == 0) = false := beq_eq_false_iff_ne.2 hs
              have e63 := muldiv_divide.w63 g hg63
              by_cases ht : c ≤ bits .or .u64 0 (bits .and .u64 (a1 / 2 ^ g) 1)
              · have I2 := Dv.one H1.out HI.out (.inr (by rw [← Dv.next_v H1.out HI.out]; exact ht))
                rw [show IntKind.u64.wrap ((0 : Int) * 2) = 0 from by decide] at I2
                have HI2 := Aside0.mk I2
                clear hs I2
                go_wp2
                go_roundg g
                case measure => omega
                case rel => exact ⟨_, _, by go_num, rfl, (Dv.r_bound H1.out HI2.out).1, ⟨blk_put (blk_put hq.out 1 _ rfl) 1 _ rfl⟩, ⟨below_set (below_set hb.out (by omega)) (by omega)⟩, HI2⟩
              · have I2 := Dv.zero H1.out HI.out (by omega) (by rw [← Dv.next_v H1.out HI.out]; exact Int.lt_of_not_ge ht)
                rw [show IntKind.u64.wrap ((0 : Int) * 2) = 0 from by decide] at I2
                have HI2 := Aside0.mk I2
                clear hs I2
                go_wp2
                go_roundg g
                case measure => omega
                case rel => exact ⟨_, _, by go_num, rfl, (Dv.r_bound H1.out HI2.out).1, ⟨blk_put hq.out 1 _ rfl⟩, ⟨below_set hb.out (by omega)⟩, HI2⟩
          · have hrb : (r == 0) = false := beq_eq_false_iff_ne.2 hr
            by_cases hk : r / 9223372036854775808 = 1
            · have hkb : (r / 9223372036854775808 == 1) = true := beq_iff_eq.2 hk
              have I2 := Dv.one H1.out HI.out (.inl (by omega))
              have HI2 := Aside0.mk I2
              clear hr hk I2
              go_wp2
              go_roundg g
              case measure => omega
              case rel => exact ⟨_, _, by go_num, rfl, (Dv.r_bound H1.out HI2.out).1, ⟨blk_put (blk_put hq.out 1 _ rfl) 1 _ rfl⟩, ⟨below_set (below_set hb.out (by omega)) (by omega)⟩, HI2⟩
            · have hkb : (r / 9223372036854775808 == 1) = false := beq_eq_false_iff_ne.2 hk
              have hlt : r < 9223372036854775808 := by have := (Dv.r_bound H1.out HI.out).2; have := H1.out.c1; omega
              by_cases ht : c ≤ bits .or .u64 (IntKind.u64.wrap (r * 2)) (bits .and .u64 (a1 / 2 ^ g) 1)
              · have I2 := Dv.one H1.out HI.out (.inr (by rw [← Dv.next_v H1.out HI.out]; exact ht))
                have HI2 := Aside0.mk I2
                have htb : decide (bits .or .u64 (IntKind.u64.wrap (r * 2)) (bits .and .u64 (a1 / 2 ^ g) 1) ≥ c) = true := decide_eq_true ht
                clear hr hk I2 hlt ht
                go_wp2
                go_roundg g
                case measure => omega
                case rel => exact ⟨_, _, by go_num, rfl, (Dv.r_bound H1.out HI2.out).1, ⟨blk_put (blk_put hq.out 1 _ rfl) 1 _ rfl⟩, ⟨below_set (below_set hb.out (by omega)) (by omega)⟩, HI2⟩
              · have I2 := Dv.zero H1.out HI.out hlt (by rw [← Dv.next_v H1.out HI.out]; exact Int.lt_of_not_ge ht)
                have HI2 := Aside0.mk I2
                have htb : decide (bits .or .u64 (IntKind.u64.wrap (r * 2)) (bits .and .u64 (a1 / 2 ^ g) 1) ≥ c) = false := decide_eq_false ht
                clear hr hk I2 hlt ht
                go_wp2
                go_roundg g
                case measure => omega
                case rel => exact ⟨_, _, by go_num, rfl, (Dv.r_bound H1.out HI2.out).1, ⟨blk_put hq.out 1 _ rfl⟩, ⟨below_set hb.out (by omega)⟩, HI2⟩
    · have hlt : ¬ ((2 : Int) < 2) := by omega
      have c0 := blk_cell hq.out 0
      have c1 := blk_cell hq.out 1
      have f0 := blk_frozen hq.out 0
      have f1 := blk_frozen hq.out 1
      simp at c0 c1
      go_wp2
      obtain ⟨_, rfl, rfl, rfl⟩ : (2 : Int) = 2 ∧ r = Dv.rm a0 a1 c ∧ q0 = Dv.qh a0 c ∧ q1 = Dv.ql a0 a1 c := by
        rcases HO.out with h | h | h
        · omega
        · omega
        · exact h
      refine bodyPost_ret (results_ct rfl _ _ (w.heap.size + 1) 50 #[.int .u64 (Dv.qh a0 c), .int .u64 (Dv.ql a0 a1 c)] (0, 0) _ rfl (by first | exact hq.out | exact blk_put (blk_put hq.out 0 _ rfl) 1 _ rfl) Try.underlying50 rfl (by kernel_rfl)) rfl ?_
      exact ⟨rfl, by first | exact hb.out | exact below_set (below_set hb.out (by omega)) (by omega)⟩

/-- The quotient, as_ two words, and the remainder. -/
def muldiv_divide.f (a0 a1 a2 : Int) : Option (Int × Int × Int) :=
  if 0 < a2 ∧ a2 < 18446744073709551616 ∧ 0 ≤ a0 ∧ a0 < 18446744073709551616 ∧ 0 ≤ a1 ∧ a1 < 18446744073709551616 then some (Dv.qh a0 a2, Dv.ql a0 a1 a2, Dv.rm a0 a1 a2) else none
theorem muldiv_divide.calls (a0 a1 a2 : Int) (r1 r2 r3 : Int) (w : World) (h : muldiv_divide.f a0 a1 a2 = some (r1, r2, r3)) :
    Calls Try.prog 42 #[.agg #[.int .u64 a0, .int .u64 a1], .int .u64 a2] w fun e w' => e = .returned (.tuple #[.agg #[.int .u64 r1, .int .u64 r2], .int .u64 r3]) ∧ Below w.heap.size w w' := by
  unfold muldiv_divide.f at h
  split at h
  · rename_i hc
    simp only [Option.some.injEq, Prod.mk.injEq] at h
    obtain ⟨rfl, rfl, rfl⟩ := h
    exact muldiv_divide.calls0 a0 a1 a2 w hc.1 ⟨⟨hc.1, hc.2.1, by omega, hc.1, by omega, by omega⟩⟩ ⟨⟨hc.1, hc.2.1, Int.emod_nonneg _ (by omega), Int.emod_lt_of_pos _ hc.1, by omega, by omega⟩⟩
  · cases h
end Go.Proofs.Ytikglhfeookhaaa.M
end
section
-- Written by mprint.py (a program of this session) over the kit's print.
namespace Go.Proofs.Ytikglhfeookhaaa.M
open Go.RowKit Go.Proofs.YtikglhfeookhaaaW.PrintWords Go.Proofs.YtikglhfeookhaaaW.PrintLast Go.Proofs.YtikglhfeookhaaaW.PrintMore
attribute [local go_sem] max2_int min2_int max_two min_two max_three min_three max_four min_four   -- for this text's walks alone
set_option linter.unusedVariables false
set_option linter.unusedSimpArgs false

theorem eqA50 (d : Nat) (w : World) (x0 y0 : Int) (x1 y1 : Int) :
    (Op.equalIn (d + 2) 50 (.agg #[.int .u64 x0, .int .u64 x1]) (.agg #[.int .u64 y0, .int .u64 y1])).run Try.prog w = .ok (x0 == y0 && (x1 == y1)) w := by
  have hu := Try.underlying50
  have hu2 := Try.underlying48
  rw [Op.equalIn]
  simp only [Sem.run_bind, run_underlying hu, Result.andThen_ok]
  have hs : ∀ w, (sizeOf 48).run Try.prog w = .ok 1 w := fun w => by kernel_rfl
  have e : ∀ (a b : Int) w, (Op.equalIn (d+1) 48 (.int .u64 a) (.int .u64 b)).run Try.prog w = .ok (a == b) w := fun a b w => by
    rw [Op.equalIn]
    simp [Sem.run_bind, run_underlying hu2]
  have p0 : ∀ (z0 : Int) (z1 : Int) w, (part 48 #[.int .u64 z0, .int .u64 z1] 0).run Try.prog w = .ok (.int .u64 z0) w := fun z0 z1 w => by go_simp
  have p1 : ∀ (z0 : Int) (z1 : Int) w, (part 48 #[.int .u64 z0, .int .u64 z1] 1).run Try.prog w = .ok (.int .u64 z1) w := fun z0 z1 w => by go_simp
  simp only [hs, Result.andThen_ok, Std.Legacy.Range.forIn_eq_forIn_range']
  simp only [Std.Legacy.Range.size, List.range']
  cases h0 : (x0 == y0) <;> cases h1 : (x1 == y1) <;> simp [p0, p1, e, Sem.run_bind, h0, h1]
end Go.Proofs.Ytikglhfeookhaaa.M
end
section
-- Written by mprint.py (a program of this session) over the kit's print.
namespace Go.Proofs.Ytikglhfeookhaaa.M
open Go.RowKit Go.Proofs.YtikglhfeookhaaaW.PrintWords Go.Proofs.YtikglhfeookhaaaW.PrintLast Go.Proofs.YtikglhfeookhaaaW.PrintMore
attribute [local go_sem] max2_int min2_int max_two min_two max_three min_three max_four min_four   -- for this text's walks alone
set_option linter.unusedVariables false
set_option linter.unusedSimpArgs false

/-! ### muldiv_multiply: function 27 -/
def muldiv_multiply.f (a0 : Int) (a1 : Int) : Option (Int × Int) := some (IntKind.u64.wrap ((IntKind.u64.wrap ((IntKind.u64.wrap ((a0 / 4294967296) * (a1 / 4294967296))) + ((IntKind.u64.wrap ((IntKind.u64.wrap ((a0 / 4294967296) * (Go.bits .and .u64 a1 4294967295))) + ((IntKind.u64.wrap ((Go.bits .and .u64 a0 4294967295) * (Go.bits .and .u64 a1 4294967295))) / 4294967296))) / 4294967296))) + ((IntKind.u64.wrap ((IntKind.u64.wrap ((Go.bits .and .u64 a0 4294967295) * (a1 / 4294967296))) + (Go.bits .and .u64 (IntKind.u64.wrap ((IntKind.u64.wrap ((a0 / 4294967296) * (Go.bits .and .u64 a1 4294967295))) + ((IntKind.u64.wrap ((Go.bits .and .u64 a0 4294967295) * (Go.bits .and .u64 a1 4294967295))) / 4294967296))) 4294967295))) / 4294967296)), Go.bits .or .u64 (IntKind.u64.wrap ((IntKind.u64.wrap ((IntKind.u64.wrap ((Go.bits .and .u64 a0 4294967295) * (a1 / 4294967296))) + (Go.bits .and .u64 (IntKind.u64.wrap ((IntKind.u64.wrap ((a0 / 4294967296) * (Go.bits .and .u64 a1 4294967295))) + ((IntKind.u64.wrap ((Go.bits .and .u64 a0 4294967295) * (Go.bits .and .u64 a1 4294967295))) / 4294967296))) 4294967295))) * 4294967296)) (Go.bits .and .u64 (IntKind.u64.wrap ((Go.bits .and .u64 a0 4294967295) * (Go.bits .and .u64 a1 4294967295))) 4294967295))
set_option maxHeartbeats 8000000 in
set_option maxRecDepth 100000 in
theorem muldiv_multiply.calls (a0 : Int) (a1 : Int) (r1 : Int) (r2 : Int) (w : World) (h : muldiv_multiply.f a0 a1 = some (r1, r2)) :
    Calls Try.prog 27 #[.int .u64 a0, .int .u64 a1] w fun e w' => e = .returned (.agg #[.int .u64 r1, .int .u64 r2]) ∧ Below w.heap.size w w' := by
 have hu50 := Try.underlying50
 have HB := Aside0.mk (Below.refl w.heap.size w)
 have H : (some (IntKind.u64.wrap ((IntKind.u64.wrap ((IntKind.u64.wrap ((a0 / 4294967296) * (a1 / 4294967296))) + ((IntKind.u64.wrap ((IntKind.u64.wrap ((a0 / 4294967296) * (Go.bits .and .u64 a1 4294967295))) + ((IntKind.u64.wrap ((Go.bits .and .u64 a0 4294967295) * (Go.bits .and .u64 a1 4294967295))) / 4294967296))) / 4294967296))) + ((IntKind.u64.wrap ((IntKind.u64.wrap ((Go.bits .and .u64 a0 4294967295) * (a1 / 4294967296))) + (Go.bits .and .u64 (IntKind.u64.wrap ((IntKind.u64.wrap ((a0 / 4294967296) * (Go.bits .and .u64 a1 4294967295))) + ((IntKind.u64.wrap ((Go.bits .and .u64 a0 4294967295) * (Go.bits .and .u64 a1 4294967295))) / 4294967296))) 4294967295))) / 4294967296)), Go.bits .or .u64 (IntKind.u64.wrap ((IntKind.u64.wrap ((IntKind.u64.wrap ((Go.bits .and .u64 a0 4294967295) * (a1 / 4294967296))) + (Go.bits .and .u64 (IntKind.u64.wrap ((IntKind.u64.wrap ((a0 / 4294967296) * (Go.bits .and .u64 a1 4294967295))) + ((IntKind.u64.wrap ((Go.bits .and .u64 a0 4294967295) * (Go.bits .and .u64 a1 4294967295))) / 4294967296))) 4294967295))) * 4294967296)) (Go.bits .and .u64 (IntKind.u64.wrap ((Go.bits .and .u64 a0 4294967295) * (Go.bits .and .u64 a1 4294967295))) 4294967295))) = some (r1, r2) := h
 clear h
 simp only [Option.some.injEq, Prod.mk.injEq] at H
 obtain ⟨rfl, rfl⟩ := H
 go_enter Try.func27, Try.ntmps27
 go_wp2_with (first | ((with_reducible refine gate_dst (N := 4) rfl ?_); refine box_event ?hg (N := 4) ?hd (cs := #[.int .u64 0, .int .u64 0]) (t := 50) ?hr ?_; (case hd => rfl); (case hg => rfl); (case hr => first | (go_simp; done) | (go_simp; rfl)); intro gb101 hg w3 hbox hb; have n0_ := Aside0.mk (below_step (by repeat (first | (with_reducible first | exact HB.out | apply below_alloc | apply pw_below_drewN | apply below_drew1) | exact HB.out)) hb); have n1_ := Aside0.mk (hbox); have n2_ := Aside0.mk ((by rw [hg]; exact (below_size (by repeat (first | (with_reducible first | exact HB.out | apply below_alloc | apply pw_below_drewN | apply below_drew1) | exact HB.out))) : w.heap.size ≤ gb101)); have n3_ := Aside0.mk ((by rw [hg]; exact (below_size (by repeat (first | (with_reducible first | exact HB.out | apply below_alloc | apply pw_below_drewN | apply below_drew1) | exact HB.out))) : w.heap.size ≤ gb101)); clear HB; have HB := n0_; have BK101 := n1_; have GW101 := n2_; have GE101 := n3_; clear n0_ n1_ n2_ n3_; clear hb hbox hg; have hcz4_0 : w3.cell? ⟨gb101, 0, none⟩ = some (.int .u64 0) := (blk_cell BK101.out 0).trans rfl; have hcz4_1 : w3.cell? ⟨gb101, 1, none⟩ = some (.int .u64 0) := (blk_cell BK101.out 1).trans rfl; have hfz4_0 := blk_frozen BK101.out 0; have hfz4_1 := blk_frozen BK101.out 1))
 refine bodyPost_ret (results_cell_row rfl _ _ gb101 50 #[.int .u64 (IntKind.u64.wrap ((IntKind.u64.wrap ((IntKind.u64.wrap ((a0 / 4294967296) * (a1 / 4294967296))) + ((IntKind.u64.wrap ((IntKind.u64.wrap ((a0 / 4294967296) * (Go.bits .and .u64 a1 4294967295))) + ((IntKind.u64.wrap ((Go.bits .and .u64 a0 4294967295) * (Go.bits .and .u64 a1 4294967295))) / 4294967296))) / 4294967296))) + ((IntKind.u64.wrap ((IntKind.u64.wrap ((Go.bits .and .u64 a0 4294967295) * (a1 / 4294967296))) + (Go.bits .and .u64 (IntKind.u64.wrap ((IntKind.u64.wrap ((a0 / 4294967296) * (Go.bits .and .u64 a1 4294967295))) + ((IntKind.u64.wrap ((Go.bits .and .u64 a0 4294967295) * (Go.bits .and .u64 a1 4294967295))) / 4294967296))) 4294967295))) / 4294967296))), .int .u64 (Go.bits .or .u64 (IntKind.u64.wrap ((IntKind.u64.wrap ((IntKind.u64.wrap ((Go.bits .and .u64 a0 4294967295) * (a1 / 4294967296))) + (Go.bits .and .u64 (IntKind.u64.wrap ((IntKind.u64.wrap ((a0 / 4294967296) * (Go.bits .and .u64 a1 4294967295))) + ((IntKind.u64.wrap ((Go.bits .and .u64 a0 4294967295) * (Go.bits .and .u64 a1 4294967295))) / 4294967296))) 4294967295))) * 4294967296)) (Go.bits .and .u64 (IntKind.u64.wrap ((Go.bits .and .u64 a0 4294967295) * (Go.bits .and .u64 a1 4294967295))) 4294967295))] (0, 0) _ rfl (by (with_reducible repeat (first | refine blk_drewN ?_ _ | refine blk_drew ?_ | refine blk_alloc ?_ _)); refine blk_put (cs := #[.int .u64 (IntKind.u64.wrap ((IntKind.u64.wrap ((IntKind.u64.wrap ((a0 / 4294967296) * (a1 / 4294967296))) + ((IntKind.u64.wrap ((IntKind.u64.wrap ((a0 / 4294967296) * (Go.bits .and .u64 a1 4294967295))) + ((IntKind.u64.wrap ((Go.bits .and .u64 a0 4294967295) * (Go.bits .and .u64 a1 4294967295))) / 4294967296))) / 4294967296))) + ((IntKind.u64.wrap ((IntKind.u64.wrap ((Go.bits .and .u64 a0 4294967295) * (a1 / 4294967296))) + (Go.bits .and .u64 (IntKind.u64.wrap ((IntKind.u64.wrap ((a0 / 4294967296) * (Go.bits .and .u64 a1 4294967295))) + ((IntKind.u64.wrap ((Go.bits .and .u64 a0 4294967295) * (Go.bits .and .u64 a1 4294967295))) / 4294967296))) 4294967295))) / 4294967296))), .int .u64 0]) ?_ 1 _ rfl; (with_reducible repeat (first | refine blk_drewN ?_ _ | refine blk_drew ?_ | refine blk_alloc ?_ _)); refine blk_put (cs := #[.int .u64 0, .int .u64 0]) ?_ 0 _ rfl; (with_reducible repeat (first | refine blk_drewN ?_ _ | refine blk_drew ?_ | refine blk_alloc ?_ _)); exact BK101.out) Try.underlying50 rfl (by kernel_rfl)) rfl ?_
 exact ⟨by first | rfl | (simp [errW_none, errW_some] <;> rfl) | (simp [*, errW_none, errW_some] <;> rfl), by repeat (first | (with_reducible first | exact HB.out | apply below_alloc | apply pw_below_drewN | apply below_drew1 | refine below_set ?_ GE101.out) | exact HB.out)⟩

end Go.Proofs.Ytikglhfeookhaaa.M
end
section
-- Written by mprint.py (a program of this session) over the kit's print.
namespace Go.Proofs.Ytikglhfeookhaaa.M
open Go.RowKit Go.Proofs.YtikglhfeookhaaaW.PrintWords Go.Proofs.YtikglhfeookhaaaW.PrintLast Go.Proofs.YtikglhfeookhaaaW.PrintMore
attribute [local go_sem] max2_int min2_int max_two min_two max_three min_three max_four min_four   -- for this text's walks alone
set_option linter.unusedVariables false
set_option linter.unusedSimpArgs false

/-! ### muldiv_magnitude: function 28 -/
def muldiv_magnitude.f (a0 : Int) : Option (Int) := if a0 < 0 then (some (IntKind.u64.wrap (-(IntKind.u64.wrap (a0))))) else (some (IntKind.u64.wrap (a0)))
set_option maxHeartbeats 8000000 in
set_option maxRecDepth 100000 in
theorem muldiv_magnitude.calls (a0 : Int) (r : Int) (w : World) (h : muldiv_magnitude.f a0 = some r) :
    Calls Try.prog 28 #[.int .i64 a0] w fun e w' => e = .returned (.int .u64 r) ∧ Drawn0 w w' := by
 have H : (if a0 < 0 then (some (IntKind.u64.wrap (-(IntKind.u64.wrap (a0))))) else (some (IntKind.u64.wrap (a0)))) = some r := h
 clear h
 by_cases c2 : a0 < 0
 ·rw [if_pos c2] at H
  have c2b0 : decide (a0 < 0) = true := decide_eq_true c2
  clear c2
  obtain rfl := Option.some.inj H
  go_enter Try.func28, Try.ntmps28
  go_wp2
  go_ret
  exact ⟨by first | rfl | (simp; done) | (simp [*]; done), by repeat (first | exact Drawn0.refl _ | apply Drawn0.step)⟩
 ·rw [if_neg c2] at H
  have c2b0 : decide (a0 < 0) = false := decide_eq_false c2
  clear c2
  obtain rfl := Option.some.inj H
  go_enter Try.func28, Try.ntmps28
  go_wp2
  go_ret
  exact ⟨by first | rfl | (simp; done) | (simp [*]; done), by repeat (first | exact Drawn0.refl _ | apply Drawn0.step)⟩

end Go.Proofs.Ytikglhfeookhaaa.M
end
section
-- Written by mprint.py (a program of this session) over the kit's print.
namespace Go.Proofs.Ytikglhfeookhaaa.M
open Go.RowKit Go.Proofs.YtikglhfeookhaaaW.PrintWords Go.Proofs.YtikglhfeookhaaaW.PrintLast Go.Proofs.YtikglhfeookhaaaW.PrintMore
attribute [local go_sem] max2_int min2_int max_two min_two max_three min_three max_four min_four   -- for this text's walks alone
set_option linter.unusedVariables false
set_option linter.unusedSimpArgs false

/-! ### muldiv_away: function 43 -/
def muldiv_away.f (a0 : Int) (a1 : Bool) (a2 : Bool) (a3 : Int) (a4 : Int) : Option (Bool) := if a3 = 0 then (some false) else (if a0 = 2 then (some true) else (if a0 = 3 then (some (decide (a3 ≥ (IntKind.u64.wrap (a4 - a3))))) else (if a0 = 4 then (if a3 > (IntKind.u64.wrap (a4 - a3)) then (some true) else (if a3 = (IntKind.u64.wrap (a4 - a3)) then (some a2) else (some false))) else (if a0 = 5 then (some a1) else (some false)))))
set_option maxHeartbeats 8000000 in
set_option maxRecDepth 100000 in
theorem muldiv_away.calls (a0 : Int) (a1 : Bool) (a2 : Bool) (a3 : Int) (a4 : Int) (r : Bool) (w : World) (h : muldiv_away.f a0 a1 a2 a3 a4 = some r) :
    Calls Try.prog 43 #[.int .i64 a0, .bool a1, .bool a2, .int .u64 a3, .int .u64 a4] w fun e w' => e = .returned (.bool r) ∧ Drawn0 w w' := by
 have H : (if a3 = 0 then (some false) else (if a0 = 2 then (some true) else (if a0 = 3 then (some (decide (a3 ≥ (IntKind.u64.wrap (a4 - a3))))) else (if a0 = 4 then (if a3 > (IntKind.u64.wrap (a4 - a3)) then (some true) else (if a3 = (IntKind.u64.wrap (a4 - a3)) then (some a2) else (some false))) else (if a0 = 5 then (some a1) else (some false)))))) = some r := h
 clear h
 by_cases c6 : a3 = 0
 ·rw [if_pos c6] at H
  have c6b0 : (a3 == 0) = true := beq_iff_eq.mpr c6
  have c6b1 : (a3 != 0) = false := bne_eq_false_iff_eq.mpr c6
  clear c6
  obtain rfl := Option.some.inj H
  go_enter Try.func43, Try.ntmps43
  go_wp2
  go_ret
  exact ⟨by first | rfl | (simp; done) | (simp [*]; done), by repeat (first | exact Drawn0.refl _ | apply Drawn0.step)⟩
 ·rw [if_neg c6] at H
  have c6b0 : (a3 == 0) = false := beq_eq_false_iff_ne.mpr c6
  have c6b1 : (a3 != 0) = true := bne_iff_ne.mpr c6
  by_cases c7 : a0 = 2
  ·rw [if_pos c7] at H
   have c7b0 : (a0 == 2) = true := beq_iff_eq.mpr c7
   have c7b1 : (a0 != 2) = false := bne_eq_false_iff_eq.mpr c7
   clear c7
   obtain rfl := Option.some.inj H
   go_enter Try.func43, Try.ntmps43
   go_wp2
   go_ret
   exact ⟨by first | rfl | (simp; done) | (simp [*]; done), by repeat (first | exact Drawn0.refl _ | apply Drawn0.step)⟩
  ·rw [if_neg c7] at H
   have c7b0 : (a0 == 2) = false := beq_eq_false_iff_ne.mpr c7
   have c7b1 : (a0 != 2) = true := bne_iff_ne.mpr c7
   by_cases c8 : a0 = 3
   ·rw [if_pos c8] at H
    have c8b0 : (a0 == 3) = true := beq_iff_eq.mpr c8
    have c8b1 : (a0 != 3) = false := bne_eq_false_iff_eq.mpr c8
    clear c8
    obtain rfl := Option.some.inj H
    go_enter Try.func43, Try.ntmps43
    go_wp2
    go_ret
    exact ⟨by first | rfl | (simp; done) | (simp [*]; done), by repeat (first | exact Drawn0.refl _ | apply Drawn0.step)⟩
   ·rw [if_neg c8] at H
    have c8b0 : (a0 == 3) = false := beq_eq_false_iff_ne.mpr c8
    have c8b1 : (a0 != 3) = true := bne_iff_ne.mpr c8
    by_cases c9 : a0 = 4
    ·rw [if_pos c9] at H
     have c9b0 : (a0 == 4) = true := beq_iff_eq.mpr c9
     have c9b1 : (a0 != 4) = false := bne_eq_false_iff_eq.mpr c9
     clear c9
     by_cases c10 : a3 > (IntKind.u64.wrap (a4 - a3))
     ·rw [if_pos c10] at H
      have c10b0 : decide ((IntKind.u64.wrap (a4 - a3)) < a3) = true := decide_eq_true c10
      clear c10
      obtain rfl := Option.some.inj H
      go_enter Try.func43, Try.ntmps43
      go_wp2
      go_ret
      exact ⟨by first | rfl | (simp; done) | (simp [*]; done), by repeat (first | exact Drawn0.refl _ | apply Drawn0.step)⟩
     ·rw [if_neg c10] at H
      have c10b0 : decide ((IntKind.u64.wrap (a4 - a3)) < a3) = false := decide_eq_false c10
      clear c10
      by_cases c11 : a3 = (IntKind.u64.wrap (a4 - a3))
      ·rw [if_pos c11] at H
       have c11b0 : (a3 == (IntKind.u64.wrap (a4 - a3))) = true := beq_iff_eq.mpr c11
       have c11b1 : (a3 != (IntKind.u64.wrap (a4 - a3))) = false := bne_eq_false_iff_eq.mpr c11
       clear c11
       obtain rfl := Option.some.inj H
       go_enter Try.func43, Try.ntmps43
       go_wp2
       go_ret
       exact ⟨by first | rfl | (simp; done) | (simp [*]; done), by repeat (first | exact Drawn0.refl _ | apply Drawn0.step)⟩
      ·rw [if_neg c11] at H
       have c11b0 : (a3 == (IntKind.u64.wrap (a4 - a3))) = false := beq_eq_false_iff_ne.mpr c11
       have c11b1 : (a3 != (IntKind.u64.wrap (a4 - a3))) = true := bne_iff_ne.mpr c11
       obtain rfl := Option.some.inj H
       go_enter Try.func43, Try.ntmps43
       go_wp2
       go_ret
       exact ⟨by first | rfl | (simp; done) | (simp [*]; done), by repeat (first | exact Drawn0.refl _ | apply Drawn0.step)⟩
    ·rw [if_neg c9] at H
     have c9b0 : (a0 == 4) = false := beq_eq_false_iff_ne.mpr c9
     have c9b1 : (a0 != 4) = true := bne_iff_ne.mpr c9
     by_cases c12 : a0 = 5
     ·rw [if_pos c12] at H
      have c12b0 : (a0 == 5) = true := beq_iff_eq.mpr c12
      have c12b1 : (a0 != 5) = false := bne_eq_false_iff_eq.mpr c12
      clear c12
      obtain rfl := Option.some.inj H
      go_enter Try.func43, Try.ntmps43
      go_wp2
      go_ret
      exact ⟨by first | rfl | (simp; done) | (simp [*]; done), by repeat (first | exact Drawn0.refl _ | apply Drawn0.step)⟩
     ·rw [if_neg c12] at H
      have c12b0 : (a0 == 5) = false := beq_eq_false_iff_ne.mpr c12
      have c12b1 : (a0 != 5) = true := bne_iff_ne.mpr c12
      obtain rfl := Option.some.inj H
      go_enter Try.func43, Try.ntmps43
      go_wp2
      go_ret
      exact ⟨by first | rfl | (simp; done) | (simp [*]; done), by repeat (first | exact Drawn0.refl _ | apply Drawn0.step)⟩

end Go.Proofs.Ytikglhfeookhaaa.M
end
section
-- Written by mprint.py (a program of this session) over the kit's print.
namespace Go.Proofs.Ytikglhfeookhaaa.M
open Go.RowKit Go.Proofs.YtikglhfeookhaaaW.PrintWords Go.Proofs.YtikglhfeookhaaaW.PrintLast Go.Proofs.YtikglhfeookhaaaW.PrintMore
attribute [local go_sem] max2_int min2_int max_two min_two max_three min_three max_four min_four   -- for this text's walks alone
set_option linter.unusedVariables false
set_option linter.unusedSimpArgs false

/-! ### muldiv_signed: function 44 -/
def muldiv_signed.f (a0 : Bool) (a1 : Int) : Option (Int × Int) := if a0 = true then (if a1 > 9223372036854775808 then (some (0, 4)) else (some (wrap64 ((wrap64 (-(wrap64 (IntKind.u64.wrap (a1 - 1))))) - 1), 0))) else (if a1 ≥ 9223372036854775808 then (some (0, 4)) else (some (wrap64 (a1), 0)))
set_option maxHeartbeats 8000000 in
set_option maxRecDepth 100000 in
theorem muldiv_signed.calls (a0 : Bool) (a1 : Int) (r1 : Int) (r2 : Int) (w : World) (h : muldiv_signed.f a0 a1 = some (r1, r2)) :
    Calls Try.prog 44 #[.bool a0, .int .u64 a1] w fun e w' => e = .returned (.tuple #[.int .i64 r1, .int .i64 r2]) ∧ Drawn0 w w' := by
 have H : (if a0 = true then (if a1 > 9223372036854775808 then (some (0, 4)) else (some (wrap64 ((wrap64 (-(wrap64 (IntKind.u64.wrap (a1 - 1))))) - 1), 0))) else (if a1 ≥ 9223372036854775808 then (some (0, 4)) else (some (wrap64 (a1), 0)))) = some (r1, r2) := h
 clear h
 by_cases c3 : a0 = true
 ·subst c3
  have H1 : (if a1 > 9223372036854775808 then (some (0, 4)) else (some (wrap64 ((wrap64 (-(wrap64 (IntKind.u64.wrap (a1 - 1))))) - 1), 0))) = some (r1, r2) := by rw [if_pos rfl] at H; exact H
  clear H
  have H := H1
  clear H1
  by_cases c4 : a1 > 9223372036854775808
  ·rw [if_pos c4] at H
   have c4b0 : decide (9223372036854775808 < a1) = true := decide_eq_true c4
   clear c4
   simp only [Option.some.injEq, Prod.mk.injEq] at H
   obtain ⟨rfl, rfl⟩ := H
   go_enter Try.func44, Try.ntmps44
   go_wp2
   go_ret2
   exact ⟨by first | rfl | (simp; done) | (simp [*]; done), by repeat (first | exact Drawn0.refl _ | apply Drawn0.step)⟩
  ·rw [if_neg c4] at H
   have c4b0 : decide (9223372036854775808 < a1) = false := decide_eq_false c4
   clear c4
   simp only [Option.some.injEq, Prod.mk.injEq] at H
   obtain ⟨rfl, rfl⟩ := H
   go_enter Try.func44, Try.ntmps44
   go_wp2
   go_ret2
   exact ⟨by first | rfl | (simp; done) | (simp [*]; done), by repeat (first | exact Drawn0.refl _ | apply Drawn0.step)⟩
 ·replace c3 := Bool.eq_false_iff.mpr c3
  subst c3
  have H1 : (if a1 ≥ 9223372036854775808 then (some (0, 4)) else (some (wrap64 (a1), 0))) = some (r1, r2) := by rw [if_neg (show ¬ (false = true) by decide)] at H; exact H
  clear H
  have H := H1
  clear H1
  by_cases c5 : a1 ≥ 9223372036854775808
  ·rw [if_pos c5] at H
   have c5b0 : decide (9223372036854775808 ≤ a1) = true := decide_eq_true c5
   clear c5
   simp only [Option.some.injEq, Prod.mk.injEq] at H
   obtain ⟨rfl, rfl⟩ := H
   go_enter Try.func44, Try.ntmps44
   go_wp2
   go_ret2
   exact ⟨by first | rfl | (simp; done) | (simp [*]; done), by repeat (first | exact Drawn0.refl _ | apply Drawn0.step)⟩
  ·rw [if_neg c5] at H
   have c5b0 : decide (9223372036854775808 ≤ a1) = false := decide_eq_false c5
   clear c5
   simp only [Option.some.injEq, Prod.mk.injEq] at H
   obtain ⟨rfl, rfl⟩ := H
   go_enter Try.func44, Try.ntmps44
   go_wp2
   go_ret2
   exact ⟨by first | rfl | (simp; done) | (simp [*]; done), by repeat (first | exact Drawn0.refl _ | apply Drawn0.step)⟩

end Go.Proofs.Ytikglhfeookhaaa.M
end
