/- What the claims of this seat share, part 7 of 9: what the program's functions compute. -/
import Derived.Test.YtadognlkefhoiaaQBB2
import Derived.Test.YtadognlkefhoiaaQBB4
import Derived.Test.YtadognlkefhoiaaQBB6
import Derived.Test.YtadognlkefhoiaaQBB1
import Derived.Test.YtadognlkefhoiaaQBB3
namespace Go.Proofs.Ytadognlkefhoiaa.M
theorem pbb7_0 {p : Prop} (h : p := by (try simp only [hl0_2]); (try simp only [hl0_3]); (with_reducible repeat (first | apply Kd.R_alloc | apply Kd.R_drewN | apply Kd.R_drew)); exact HO_0.out) : p := h
theorem pbb7_1 {p : Prop} (h : p := by simp only [List.length_append]; omega) : p := h
theorem pbb7_2 {p : Prop} (h : p := by rw [List.length_append]; omega) : p := h
theorem pbb7_3 {p : Prop} (h : p := by repeat (first | (with_reducible first | exact HB.out | apply below_alloc | apply pw_below_drewN | apply below_drew1 | refine below_set ?_ (IsS24.ge HI102.out)) | exact HB.out)) : p := h
theorem pbb7_4 {p : Prop} (h : p := by repeat (first | (with_reducible first | exact HI102.out | apply IsS24.alloc | apply IsS24.drewN | apply IsS24.drew) | exact HI102.out)) : p := h
theorem pbb7_5 {p : Prop} (h : p := by (with_reducible repeat (first | apply Kd.R_alloc | apply Kd.R_drewN | apply Kd.R_drew)); exact HO_7.out) : p := h
theorem pbb7_6 {p : Prop} (h : p := by (with_reducible repeat (first | apply Kd.R_alloc | apply Kd.R_drewN | apply Kd.R_drew)); exact HO_8.out) : p := h
end Go.Proofs.Ytadognlkefhoiaa.M
section
namespace Go.Proofs.Ytadognlkefhoiaa.M
open Go.RowKit Go.Proofs.YtadognlkefhoiaaW.PrintWords Go.Proofs.YtadognlkefhoiaaW.PrintLast Go.Proofs.YtadognlkefhoiaaW.PrintMore
attribute [local go_sem] max2_int min2_int max_two min_two max_three min_three max_four min_four
set_option linter.unusedVariables false
set_option linter.unusedSimpArgs false
mutual
def slices_stableCmpFunc_int__split_ranked_1.l0 : Nat → List Int → Int → Int → Int → Int → List Int → Option (List Int)
  | 0, _, _, _, _, _, _ => none
  | k + 1, x0, x1, x6, x7, x8, x3000 => if x8 ≤ x1 then ((slices_insertionSortCmpFunc_int__split_ranked_1.f k x0 x7 x8 x3000).bind fun t125 => (slices_stableCmpFunc_int__split_ranked_1.l0 k t125 x1 x6 x8 (wrap64 (x8 + x6)) x3000)) else ((slices_insertionSortCmpFunc_int__split_ranked_1.f k x0 x7 x1 x3000).bind fun t126 => (slices_stableCmpFunc_int__split_ranked_1.l1 k t126 x1 x6 x3000))
def slices_stableCmpFunc_int__split_ranked_1.l1 : Nat → List Int → Int → Int → List Int → Option (List Int)
  | 0, _, _, _, _ => none
  | k + 1, x0, x1, x6, x3000 => if x6 < x1 then (slices_stableCmpFunc_int__split_ranked_1.l2 k x0 x1 x6 0 (wrap64 (2 * x6)) x3000) else (some x0)
def slices_stableCmpFunc_int__split_ranked_1.l2 : Nat → List Int → Int → Int → Int → Int → List Int → Option (List Int)
  | 0, _, _, _, _, _, _ => none
  | k + 1, x0, x1, x6, x7, x8, x3000 => if x8 ≤ x1 then ((slices_symMergeCmpFunc_int__split_ranked_1.f k x0 x7 (wrap64 (x7 + x6)) x8 x3000).bind fun t127 => (slices_stableCmpFunc_int__split_ranked_1.l2 k t127 x1 x6 x8 (wrap64 (x8 + (wrap64 (2 * x6)))) x3000)) else (if (wrap64 (x7 + x6)) < x1 then ((slices_symMergeCmpFunc_int__split_ranked_1.f k x0 x7 (wrap64 (x7 + x6)) x1 x3000).bind fun t128 => (slices_stableCmpFunc_int__split_ranked_1.l1 k t128 x1 (wrap64 (x6 * 2)) x3000)) else (slices_stableCmpFunc_int__split_ranked_1.l1 k x0 x1 (wrap64 (x6 * 2)) x3000))
end
def slices_stableCmpFunc_int__split_ranked_1.f (k : Nat) (l0 : List Int) (a1 : Int) (s2_0 : List Int) : Option (List Int) := slices_stableCmpFunc_int__split_ranked_1.l0 k l0 a1 20 0 20 s2_0
theorem slices_stableCmpFunc_int__split_ranked_1.mono_l : ∀ k, (∀ y0 y1 y2 y3 y4 y5, LeO (slices_stableCmpFunc_int__split_ranked_1.l0 k y0 y1 y2 y3 y4 y5) (slices_stableCmpFunc_int__split_ranked_1.l0 (k + 1) y0 y1 y2 y3 y4 y5)) ∧ (∀ y0 y1 y2 y3, LeO (slices_stableCmpFunc_int__split_ranked_1.l1 k y0 y1 y2 y3) (slices_stableCmpFunc_int__split_ranked_1.l1 (k + 1) y0 y1 y2 y3)) ∧ (∀ y0 y1 y2 y3 y4 y5, LeO (slices_stableCmpFunc_int__split_ranked_1.l2 k y0 y1 y2 y3 y4 y5) (slices_stableCmpFunc_int__split_ranked_1.l2 (k + 1) y0 y1 y2 y3 y4 y5))
  | 0 => ⟨fun _ _ _ _ _ _ r h => by simp [slices_stableCmpFunc_int__split_ranked_1.l0] at h, fun _ _ _ _ r h => by simp [slices_stableCmpFunc_int__split_ranked_1.l1] at h, fun _ _ _ _ _ _ r h => by simp [slices_stableCmpFunc_int__split_ranked_1.l2] at h⟩
  | k + 1 => by
    obtain ⟨ih0, ih1, ih2⟩ := slices_stableCmpFunc_int__split_ranked_1.mono_l k; refine ⟨?_, ?_, ?_⟩
    · intro y0 y1 y2 y3 y4 y5
      unfold slices_stableCmpFunc_int__split_ranked_1.l0
      repeat' first
      | (with_reducible exact ih0 _ _ _ _ _ _)
      | (with_reducible exact ih1 _ _ _ _)
      | (with_reducible exact ih2 _ _ _ _ _ _)
      | (with_reducible exact slices_insertionSortCmpFunc_int__split_ranked_1.mono _ _ _ _ _)
      | (with_reducible exact slices_symMergeCmpFunc_int__split_ranked_1.mono _ _ _ _ _ _)
      | (with_reducible exact LeO.refl _)
      | (with_reducible exact LeO.none _)
      | (with_reducible refine LeO.ite ?_ ?_)
      | (with_reducible refine LeO.bind ?_ (fun _ => ?_))
      | exact ih0 _ _ _ _ _ _
      | exact ih1 _ _ _ _
      | exact ih2 _ _ _ _ _ _
      | exact slices_insertionSortCmpFunc_int__split_ranked_1.mono _ _ _ _ _
      | exact slices_symMergeCmpFunc_int__split_ranked_1.mono _ _ _ _ _ _
      | exact LeO.none _
      | refine LeO.ite ?_ ?_
      | refine LeO.bind ?_ (fun _ => ?_)
    · intro y0 y1 y2 y3
      unfold slices_stableCmpFunc_int__split_ranked_1.l1
      repeat' first
      | (with_reducible exact ih0 _ _ _ _ _ _)
      | (with_reducible exact ih1 _ _ _ _)
      | (with_reducible exact ih2 _ _ _ _ _ _)
      | (with_reducible exact slices_insertionSortCmpFunc_int__split_ranked_1.mono _ _ _ _ _)
      | (with_reducible exact slices_symMergeCmpFunc_int__split_ranked_1.mono _ _ _ _ _ _)
      | (with_reducible exact LeO.refl _)
      | (with_reducible exact LeO.none _)
      | (with_reducible refine LeO.ite ?_ ?_)
      | (with_reducible refine LeO.bind ?_ (fun _ => ?_))
      | exact ih0 _ _ _ _ _ _
      | exact ih1 _ _ _ _
      | exact ih2 _ _ _ _ _ _
      | exact slices_insertionSortCmpFunc_int__split_ranked_1.mono _ _ _ _ _
      | exact slices_symMergeCmpFunc_int__split_ranked_1.mono _ _ _ _ _ _
      | exact LeO.none _
      | refine LeO.ite ?_ ?_
      | refine LeO.bind ?_ (fun _ => ?_)
    · intro y0 y1 y2 y3 y4 y5
      unfold slices_stableCmpFunc_int__split_ranked_1.l2
      repeat' first
      | (with_reducible exact ih0 _ _ _ _ _ _)
      | (with_reducible exact ih1 _ _ _ _)
      | (with_reducible exact ih2 _ _ _ _ _ _)
      | (with_reducible exact slices_insertionSortCmpFunc_int__split_ranked_1.mono _ _ _ _ _)
      | (with_reducible exact slices_symMergeCmpFunc_int__split_ranked_1.mono _ _ _ _ _ _)
      | (with_reducible exact LeO.refl _)
      | (with_reducible exact LeO.none _)
      | (with_reducible refine LeO.ite ?_ ?_)
      | (with_reducible refine LeO.bind ?_ (fun _ => ?_))
      | exact ih0 _ _ _ _ _ _
      | exact ih1 _ _ _ _
      | exact ih2 _ _ _ _ _ _
      | exact slices_insertionSortCmpFunc_int__split_ranked_1.mono _ _ _ _ _
      | exact slices_symMergeCmpFunc_int__split_ranked_1.mono _ _ _ _ _ _
      | exact LeO.none _
      | refine LeO.ite ?_ ?_
      | refine LeO.bind ?_ (fun _ => ?_)
theorem slices_stableCmpFunc_int__split_ranked_1.mono : ∀ a0 a1 a2 k, LeO (slices_stableCmpFunc_int__split_ranked_1.f k a0 a1 a2) (slices_stableCmpFunc_int__split_ranked_1.f (k + 1) a0 a1 a2) := by
 intro a0 a1 a2 k; obtain ⟨ih0, ih1, ih2⟩ := slices_stableCmpFunc_int__split_ranked_1.mono_l k
 unfold slices_stableCmpFunc_int__split_ranked_1.f
 repeat' first
   | (with_reducible exact ih0 _ _ _ _ _ _)
   | (with_reducible exact ih1 _ _ _ _)
   | (with_reducible exact ih2 _ _ _ _ _ _)
   | (with_reducible exact slices_insertionSortCmpFunc_int__split_ranked_1.mono _ _ _ _ _)
   | (with_reducible exact slices_symMergeCmpFunc_int__split_ranked_1.mono _ _ _ _ _ _)
   | (with_reducible exact LeO.refl _)
   | (with_reducible exact LeO.none _)
   | (with_reducible refine LeO.ite ?_ ?_)
   | (with_reducible refine LeO.bind ?_ (fun _ => ?_))
   | exact ih0 _ _ _ _ _ _
   | exact ih1 _ _ _ _
   | exact ih2 _ _ _ _ _ _
   | exact slices_insertionSortCmpFunc_int__split_ranked_1.mono _ _ _ _ _
   | exact slices_symMergeCmpFunc_int__split_ranked_1.mono _ _ _ _ _ _
   | exact LeO.none _
   | refine LeO.ite ?_ ?_
   | refine LeO.bind ?_ (fun _ => ?_)
set_option maxHeartbeats 8000000 in
set_option maxRecDepth 100000 in
theorem slices_stableCmpFunc_int__split_ranked_1.calls (k : Nat) (P0_ : Nat → Prop) (u9000_ : Value) (l0 : List Int) (a1 : Int) (g : Nat) (s2_0 : List Int) (r : List Int) (w0 w : World) (hI : IsS24 w0 w g s2_0) (hB : Below w0.heap.size w0 w) (ho0 : Kd.R (Kd.int .i64) 3 w w0.heap.size P0_ u9000_ l0) (h : slices_stableCmpFunc_int__split_ranked_1.f k l0 a1 s2_0 = some r) :
    Calls Try.prog 61 #[u9000_, .int .i64 a1, .func (.func 60) #[] #[.pointer (some ⟨g, 0, none⟩)]] w fun e w' => e = .returned (.tuple #[]) ∧ IsS24 w0 w' g s2_0 ∧ Kd.R (Kd.int .i64) 3 w' w0.heap.size (fun k_ => (P0_ k_ ∨ w.heap.size ≤ k_)) u9000_ r ∧ Below w0.heap.size w0 w' ∧ Kept w w' (fun k_ => (P0_ k_) ∨ k_ = g) := by
 have HO0 := Aside0.mk (show Kd.R (Kd.int .i64) 3 w w0.heap.size (fun k_ => (P0_ k_ ∨ w.heap.size ≤ k_)) u9000_ l0 from Kd.R_mono ho0 (fun k_ hk => (.inl hk))); have HI2 := Aside0.mk hI; have HL := Aside0.mk hB.size; clear hI; have HK := Aside0.mk (Kept.refl w (fun k_ => (P0_ k_) ∨ k_ = g)); have HW0 := Aside0.mk hB.size; have HB := Aside0.mk hB; clear hB; have H : (slices_stableCmpFunc_int__split_ranked_1.l0 k l0 a1 20 0 20 s2_0) = some r := h; clear h; have H' := Aside0.mk H; clear H; go_enter Try.func61, Try.ntmps61
 go_wp2
 go_loopg [7, 8] k (fun kq v7 v8 w' => ∃ (x0_1 : List Int) (x7_1 : Int) (x8_1 : Int), v7 = .int .i64 x7_1 ∧ v8 = .int .i64 x8_1 ∧ Aside0 (slices_stableCmpFunc_int__split_ranked_1.l0 kq x0_1 a1 20 x7_1 x8_1 s2_0 = some r) ∧ Aside0 (kq ≤ k) ∧ Aside0 (Kd.R (Kd.int .i64) 3 w' w0.heap.size (fun k_ => (P0_ k_ ∨ w.heap.size ≤ k_)) u9000_ x0_1) ∧ Aside0 (IsS24 w0 w' g s2_0) ∧ Aside0 (Kept w w' (fun k_ => (P0_ k_) ∨ k_ = g)) ∧ Aside0 (Below w0.heap.size w0 w'))
 case atStart => exact ⟨(l0), (0), (20), pbb2_0, pbb2_0, H', ⟨Nat.le_refl _⟩, ⟨pbb6_0⟩, ⟨pbb4_3⟩, ⟨pbb4_7⟩, ⟨pbb4_4⟩⟩
 case round =>
  clear H'; (try clear p2); obtain ⟨x0_1, x7_1, x8_1, rfl, rfl, HA, HK1, HO_0, HI2, HK, HB⟩ := hrel
  cases gk with
  | zero => exact absurd HA.out (by simp [slices_stableCmpFunc_int__split_ranked_1.l0])
  | succ k1 =>
   have H := HA.out; clear HA; simp only [slices_stableCmpFunc_int__split_ranked_1.l0] at H
   by_cases c4 : x8_1 ≤ a1
   ·rw [if_pos c4] at H; have c4b0 : decide (x8_1 ≤ a1) = true := decide_eq_true c4; clear c4; replace H := Option.bind_eq_some_iff.mp H; obtain ⟨t125, A50, H⟩ := H; replace H : (slices_stableCmpFunc_int__split_ranked_1.l0 k1 t125 a1 20 x8_1 (wrap64 (x8_1 + 20)) s2_0) = some r := H; have A5 := Aside0.mk A50; clear A50; have H' := Aside0.mk H; clear H; obtain ⟨Ao6, co6, eo6⟩ := Kd.R_slice HO_0.out; subst eo6
    go_wp2_with (first | ((with_reducible refine gate_callee (f := 62) rfl ?_); refine goesL_ (some 18) rfl rfl Try.func62 (by kernel_rfl) rfl #[.slice Ao6 x0_1.length co6, .int .i64 x7_1, .int .i64 x8_1, .func (.func 60) #[] #[.pointer (some ⟨g, 0, none⟩)]] rfl pbb3_0 ?_; (with_reducible refine (slices_insertionSortCmpFunc_int__split_ranked_1.calls k1 (fun k_ => some k_ = (.slice Ao6 x0_1.length co6 : Value).ownBlock) (.slice Ao6 x0_1.length co6) x0_1 x7_1 x8_1 g s2_0 t125 w0 _ ?side1 ?side2 ?side3 A5.out).mono ?_); (case side1 => repeat (first | (with_reducible first | exact HI2.out | apply IsS24.alloc | apply IsS24.drewN | apply IsS24.drew) | exact HI2.out)); (case side2 => repeat (first | (with_reducible first | exact HB.out | apply below_alloc | apply pw_below_drewN | apply below_drew1 | refine below_set ?_ (IsS24.ge HI2.out)) | exact HB.out)); (case side3 => exact Kd.R_tight rfl HO_0.out); rintro e w7 ⟨rfl, hi, hy0, hb, hkp⟩; refine ⟨_, rfl, ?_⟩; have n0_ := Aside0.mk (Kd.R_reok rfl hy0 (fun k_ e_ => HO_0.out.1 k_ e_)); have n1_ := Aside0.mk (hi); have n2_ := Aside0.mk (Kept.then_ (S := (fun k_ => (P0_ k_) ∨ k_ = g)) pbb4_7 hkp (fun k_ hs_ => Or.elim hs_ (fun hs_ => (fun e_ => Or.imp_left Or.inl ((HO_0.out.1 k_ e_.symm))) hs_) (fun e_ => .inl (.inr e_)))); have n3_ := Aside0.mk (hb); clear HO_0; clear HI2; clear HK; clear HB; have HO_0 := n0_; have HI2 := n1_; have HK := n2_; have HB := n3_; clear n0_ n1_ n2_ n3_; (try clear hb); (try clear hkp); (try clear hy0)))
    go_roundg k1
    case measure => have := HK1.out; omega
    case rel => exact ⟨(t125), (x8_1), (wrap64 (x8_1 + 20)), pbb2_0, pbb2_0, H', ⟨by have := HK1.out; omega⟩, ⟨pbb4_9⟩, ⟨pbb4_3⟩, ⟨pbb4_7⟩, ⟨pbb4_4⟩⟩
   ·rw [if_neg c4] at H; have c4b0 : decide (x8_1 ≤ a1) = false := decide_eq_false c4; clear c4; replace H := Option.bind_eq_some_iff.mp H; obtain ⟨t126, A80, H⟩ := H; replace H : (slices_stableCmpFunc_int__split_ranked_1.l1 k1 t126 a1 20 s2_0) = some r := H; have A8 := Aside0.mk A80; clear A80; have H' := Aside0.mk H; clear H; obtain ⟨Ao9, co9, eo9⟩ := Kd.R_slice HO_0.out; subst eo9
    go_wp2_with (first | ((with_reducible refine gate_callee (f := 62) rfl ?_); refine goesL_ (some 27) rfl rfl Try.func62 (by kernel_rfl) rfl #[.slice Ao9 x0_1.length co9, .int .i64 x7_1, .int .i64 a1, .func (.func 60) #[] #[.pointer (some ⟨g, 0, none⟩)]] rfl pbb3_0 ?_; (with_reducible refine (slices_insertionSortCmpFunc_int__split_ranked_1.calls k1 (fun k_ => some k_ = (.slice Ao9 x0_1.length co9 : Value).ownBlock) (.slice Ao9 x0_1.length co9) x0_1 x7_1 a1 g s2_0 t126 w0 _ ?side1 ?side2 ?side3 A8.out).mono ?_); (case side1 => repeat (first | (with_reducible first | exact HI2.out | apply IsS24.alloc | apply IsS24.drewN | apply IsS24.drew) | exact HI2.out)); (case side2 => repeat (first | (with_reducible first | exact HB.out | apply below_alloc | apply pw_below_drewN | apply below_drew1 | refine below_set ?_ (IsS24.ge HI2.out)) | exact HB.out)); (case side3 => exact Kd.R_tight rfl HO_0.out); rintro e w10 ⟨rfl, hi, hy0, hb, hkp⟩; refine ⟨_, rfl, ?_⟩; have n0_ := Aside0.mk (Kd.R_reok rfl hy0 (fun k_ e_ => HO_0.out.1 k_ e_)); have n1_ := Aside0.mk (hi); have n2_ := Aside0.mk (Kept.then_ (S := (fun k_ => (P0_ k_) ∨ k_ = g)) pbb4_7 hkp (fun k_ hs_ => Or.elim hs_ (fun hs_ => (fun e_ => Or.imp_left Or.inl ((HO_0.out.1 k_ e_.symm))) hs_) (fun e_ => .inl (.inr e_)))); have n3_ := Aside0.mk (hb); clear HO_0; clear HI2; clear HK; clear HB; have HO_0 := n0_; have HI2 := n1_; have HK := n2_; have HB := n3_; clear n0_ n1_ n2_ n3_; (try clear hb); (try clear hkp); (try clear hy0)))
    (try simp only [Act.put, List.setIfInBounds_toArray, List.set_cons_zero, List.set_cons_succ])
    go_loopg [6] k1 (fun kq v6 w' => ∃ (x0_2 : List Int) (x6_2 : Int), v6 = .int .i64 x6_2 ∧ Aside0 (slices_stableCmpFunc_int__split_ranked_1.l1 kq x0_2 a1 x6_2 s2_0 = some r) ∧ Aside0 (kq ≤ k1) ∧ Aside0 (Kd.R (Kd.int .i64) 3 w' w0.heap.size (fun k_ => (P0_ k_ ∨ w.heap.size ≤ k_)) (.slice Ao9 x0_1.length co9) x0_2) ∧ Aside0 (IsS24 w0 w' g s2_0) ∧ Aside0 (Kept w w' (fun k_ => (P0_ k_) ∨ k_ = g)) ∧ Aside0 (Below w0.heap.size w0 w'))
    case atStart => exact ⟨(t126), (20), pbb2_0, H', ⟨Nat.le_refl _⟩, ⟨pbb4_9⟩, ⟨pbb4_3⟩, ⟨pbb4_7⟩, ⟨pbb4_4⟩⟩
    case round =>
     clear H'; (try clear p2); (try clear c4); (try clear c4b0); (try clear c6); (try clear p6); (try clear p2); obtain ⟨x0_2, x6_2, rfl, HA, HK2, HO_0, HI2, HK, HB⟩ := hrel; have hl0_2 := (Kd.R_reads' HO_0.out).1; rw [hl0_2] at HO_0; (try simp only [hl0_2])
     cases gk with
     | zero => exact absurd HA.out (by simp [slices_stableCmpFunc_int__split_ranked_1.l1])
     | succ k2 =>
      have H := HA.out; clear HA; simp only [slices_stableCmpFunc_int__split_ranked_1.l1] at H
      by_cases c11 : x6_2 < a1
      ·rw [if_pos c11] at H; have c11b0 : decide (x6_2 < a1) = true := decide_eq_true c11; clear c11; have H' := Aside0.mk H; clear H
       go_wp2
       go_loopg [7, 8] k2 (fun kq v7 v8 w' => ∃ (x0_3 : List Int) (x7_3 : Int) (x8_3 : Int), v7 = .int .i64 x7_3 ∧ v8 = .int .i64 x8_3 ∧ Aside0 (slices_stableCmpFunc_int__split_ranked_1.l2 kq x0_3 a1 x6_2 x7_3 x8_3 s2_0 = some r) ∧ Aside0 (kq ≤ k2) ∧ Aside0 (Kd.R (Kd.int .i64) 3 w' w0.heap.size (fun k_ => (P0_ k_ ∨ w.heap.size ≤ k_)) (.slice Ao9 x0_2.length co9) x0_3) ∧ Aside0 (IsS24 w0 w' g s2_0) ∧ Aside0 (Kept w w' (fun k_ => (P0_ k_) ∨ k_ = g)) ∧ Aside0 (Below w0.heap.size w0 w'))
       case atStart => exact ⟨(x0_2), (0), (wrap64 (2 * x6_2)), pbb2_0, pbb2_0, H', ⟨Nat.le_refl _⟩, ⟨by (try simp only [hl0_2]); (with_reducible repeat (first | apply Kd.R_alloc | apply Kd.R_drewN | apply Kd.R_drew)); exact HO_0.out⟩, ⟨pbb4_3⟩, ⟨pbb4_7⟩, ⟨pbb4_4⟩⟩
       case round =>
        clear H'; (try clear c1); (try clear p2); (try clear c4); (try clear c4b0); (try clear c6); (try clear p6); (try clear c11); (try clear c11b0); (try clear p2); (try clear p6); obtain ⟨x0_3, x7_3, x8_3, rfl, rfl, HA, HK3, HO_0, HI2, HK, HB⟩ := hrel; have hl0_3 := (Kd.R_reads' HO_0.out).1; rw [hl0_3] at HO_0; (try simp only [hl0_3])
        cases gk with
        | zero => exact absurd HA.out (by simp [slices_stableCmpFunc_int__split_ranked_1.l2])
        | succ k3 =>
         have H := HA.out; clear HA; simp only [slices_stableCmpFunc_int__split_ranked_1.l2] at H
         by_cases c12 : x8_3 ≤ a1
         ·rw [if_pos c12] at H; have c12b0 : decide (x8_3 ≤ a1) = true := decide_eq_true c12; clear c12; replace H := Option.bind_eq_some_iff.mp H; obtain ⟨t127, A130, H⟩ := H; replace H : (slices_stableCmpFunc_int__split_ranked_1.l2 k3 t127 a1 x6_2 x8_3 (wrap64 (x8_3 + (wrap64 (2 * x6_2)))) s2_0) = some r := H; have A13 := Aside0.mk A130; clear A130; have H' := Aside0.mk H; clear H
          go_wp2_with (first | ((with_reducible refine gate_callee (f := 63) rfl ?_); refine goesL_ (some 43) rfl rfl Try.func63 (by kernel_rfl) rfl #[.slice Ao9 x0_3.length co9, .int .i64 x7_3, .int .i64 (wrap64 (x7_3 + x6_2)), .int .i64 x8_3, .func (.func 60) #[] #[.pointer (some ⟨g, 0, none⟩)]] rfl pbb3_0 ?_; (with_reducible refine (slices_symMergeCmpFunc_int__split_ranked_1.calls k3 (fun k_ => some k_ = (.slice Ao9 x0_3.length co9 : Value).ownBlock) (.slice Ao9 x0_3.length co9) x0_3 x7_3 (wrap64 (x7_3 + x6_2)) x8_3 g s2_0 t127 w0 _ ?side1 ?side2 ?side3 A13.out).mono ?_); (case side1 => repeat (first | (with_reducible first | exact HI2.out | apply IsS24.alloc | apply IsS24.drewN | apply IsS24.drew) | exact HI2.out)); (case side2 => repeat (first | (with_reducible first | exact HB.out | apply below_alloc | apply pw_below_drewN | apply below_drew1 | refine below_set ?_ (IsS24.ge HI2.out)) | exact HB.out)); (case side3 => exact Kd.R_tight rfl HO_0.out); rintro e w14 ⟨rfl, hi, hy0, hb, hkp⟩; refine ⟨_, rfl, ?_⟩; have n0_ := Aside0.mk (Kd.R_reok rfl hy0 (fun k_ e_ => HO_0.out.1 k_ e_)); have n1_ := Aside0.mk (hi); have n2_ := Aside0.mk (Kept.then_ (S := (fun k_ => (P0_ k_) ∨ k_ = g)) pbb4_7 hkp (fun k_ hs_ => Or.elim hs_ (fun hs_ => (fun e_ => Or.imp_left Or.inl ((HO_0.out.1 k_ e_.symm))) hs_) (fun e_ => .inl (.inr e_)))); have n3_ := Aside0.mk (hb); clear HO_0; clear HI2; clear HK; clear HB; have HO_0 := n0_; have HI2 := n1_; have HK := n2_; have HB := n3_; clear n0_ n1_ n2_ n3_; (try clear hb); (try clear hkp); (try clear hy0)))
          (try simp only [← hl0_3])
          go_roundg k3
          case measure => have := HK1.out; have := HK2.out; have := HK3.out; omega
          case rel => exact ⟨(t127), (x8_3), (wrap64 (x8_3 + (wrap64 (2 * x6_2)))), pbb2_0, pbb2_0, H', ⟨by have := HK1.out; have := HK2.out; have := HK3.out; omega⟩, ⟨pbb7_0⟩, ⟨pbb4_3⟩, ⟨pbb4_7⟩, ⟨pbb4_4⟩⟩
         ·rw [if_neg c12] at H; have c12b0 : decide (x8_3 ≤ a1) = false := decide_eq_false c12; clear c12
          by_cases c15 : (wrap64 (x7_3 + x6_2)) < a1
          ·rw [if_pos c15] at H; have c15b0 : decide ((wrap64 (x7_3 + x6_2)) < a1) = true := decide_eq_true c15; clear c15; replace H := Option.bind_eq_some_iff.mp H; obtain ⟨t128, A160, H⟩ := H; replace H : (slices_stableCmpFunc_int__split_ranked_1.l1 k3 t128 a1 (wrap64 (x6_2 * 2)) s2_0) = some r := H; have A16 := Aside0.mk A160; clear A160; have H' := Aside0.mk H; clear H
           go_wp2_with (first | ((with_reducible refine gate_callee (f := 63) rfl ?_); refine goesL_ (some 60) rfl rfl Try.func63 (by kernel_rfl) rfl #[.slice Ao9 x0_3.length co9, .int .i64 x7_3, .int .i64 (wrap64 (x7_3 + x6_2)), .int .i64 a1, .func (.func 60) #[] #[.pointer (some ⟨g, 0, none⟩)]] rfl pbb3_0 ?_; (with_reducible refine (slices_symMergeCmpFunc_int__split_ranked_1.calls k3 (fun k_ => some k_ = (.slice Ao9 x0_3.length co9 : Value).ownBlock) (.slice Ao9 x0_3.length co9) x0_3 x7_3 (wrap64 (x7_3 + x6_2)) a1 g s2_0 t128 w0 _ ?side1 ?side2 ?side3 A16.out).mono ?_); (case side1 => repeat (first | (with_reducible first | exact HI2.out | apply IsS24.alloc | apply IsS24.drewN | apply IsS24.drew) | exact HI2.out)); (case side2 => repeat (first | (with_reducible first | exact HB.out | apply below_alloc | apply pw_below_drewN | apply below_drew1 | refine below_set ?_ (IsS24.ge HI2.out)) | exact HB.out)); (case side3 => exact Kd.R_tight rfl HO_0.out); rintro e w17 ⟨rfl, hi, hy0, hb, hkp⟩; refine ⟨_, rfl, ?_⟩; have n0_ := Aside0.mk (Kd.R_reok rfl hy0 (fun k_ e_ => HO_0.out.1 k_ e_)); have n1_ := Aside0.mk (hi); have n2_ := Aside0.mk (Kept.then_ (S := (fun k_ => (P0_ k_) ∨ k_ = g)) pbb4_7 hkp (fun k_ hs_ => Or.elim hs_ (fun hs_ => (fun e_ => Or.imp_left Or.inl ((HO_0.out.1 k_ e_.symm))) hs_) (fun e_ => .inl (.inr e_)))); have n3_ := Aside0.mk (hb); clear HO_0; clear HI2; clear HK; clear HB; have HO_0 := n0_; have HI2 := n1_; have HK := n2_; have HB := n3_; clear n0_ n1_ n2_ n3_; (try clear hb); (try clear hkp); (try clear hy0)))
           (try simp only [← hl0_2, ← hl0_3])
           go_roundg k3
           case measure => have := HK1.out; have := HK2.out; have := HK3.out; omega
           case rel => exact ⟨(t128), (wrap64 (x6_2 * 2)), pbb2_0, H', ⟨by have := HK1.out; have := HK2.out; have := HK3.out; omega⟩, ⟨pbb7_0⟩, ⟨pbb4_3⟩, ⟨pbb4_7⟩, ⟨pbb4_4⟩⟩
          ·rw [if_neg c15] at H; have c15b0 : decide ((wrap64 (x7_3 + x6_2)) < a1) = false := decide_eq_false c15; clear c15; have H' := Aside0.mk H; clear H
           go_wp2
           (try simp only [← hl0_2, ← hl0_3])
           go_roundg k3
           case measure => have := HK1.out; have := HK2.out; have := HK3.out; omega
           case rel => exact ⟨(x0_3), (wrap64 (x6_2 * 2)), pbb2_0, H', ⟨by have := HK1.out; have := HK2.out; have := HK3.out; omega⟩, ⟨pbb7_0⟩, ⟨pbb4_3⟩, ⟨pbb4_7⟩, ⟨pbb4_4⟩⟩
      ·rw [if_neg c11] at H; have c11b0 : decide (x6_2 < a1) = false := decide_eq_false c11; clear c11; obtain rfl := Option.some.inj H
       go_wp2
       first | go_end0 | ((try simp only [Exit.inBlock, Exit.then]); refine bodyPost_ret (results_none rfl _ _ _) rfl ?_)
       exact ⟨pbb2_6, pbb4_3, (by first | exact pbb4_9 | (simp only [hl0_2]; exact pbb4_9)), pbb4_4, pbb4_7⟩
end Go.Proofs.Ytadognlkefhoiaa.M
end
section
namespace Go.Proofs.Ytadognlkefhoiaa.M
open Go.RowKit Go.Proofs.YtadognlkefhoiaaW.PrintWords
set_option linter.unusedVariables false
theorem slices_swapRangeCmpFunc_int__split_ranked_1.swap (s : List Int) (b0 n : Int) : ∀ (A B P M S : List Int) (a i : Int), A.length = B.length → a + i = (P.length : Int) → b0 + i = (P.length : Int) + A.length + M.length → n = i + A.length → 0 ≤ a → 0 ≤ i → (P ++ A ++ M ++ B ++ S).length < 1000000 →
    Ev (fun k => slices_swapRangeCmpFunc_int__split_ranked_1.l0 k (P ++ A ++ M ++ B ++ S) a b0 n i) (P ++ B ++ M ++ A ++ S)
  | [], B, P, M, S, a, i, hl, ha, hb, hn, _, _, _ => by
    obtain rfl : B = [] := List.eq_nil_of_length_eq_zero hl.symm; refine Ev.succ ?_; have h : ¬ i < n := by simp at hn; omega
    simp only [slices_swapRangeCmpFunc_int__split_ranked_1.l0, if_neg h]; exact Ev.const _
  | u :: A, B, P, M, S, a, i, hl, ha, hb, hn, h0, h1, hs => by
    obtain ⟨v, B, rfl⟩ : ∃ v B', B = v :: B' := by
      cases B with
      | nil => simp at hl
      | cons v B => exact ⟨v, B, rfl⟩
    simp only [List.length_cons] at hl hn hb; simp only [List.length_append, List.length_cons] at hs; have ih := slices_swapRangeCmpFunc_int__split_ranked_1.swap s b0 n A B (P ++ [v]) (M ++ [u]) S a (i + 1) (by omega) (by simp; omega) (by simp; omega) (by omega) h0 (by omega) (by simp only [List.length_append, List.length_cons, List.length_nil]; omega); refine Ev.succ ?_; have e1 : wrap64 (a + i) = a + i := w64 (by omega) (by omega); have e2 : wrap64 (b0 + i) = b0 + i := w64 (by omega) (by omega); have e3 : wrap64 (i + 1) = i + 1 := w64 (by omega) (by omega)
    have r1 : rd (P ++ u :: A ++ M ++ v :: B ++ S) (a + i) = u := by
      rw [show P ++ u :: A ++ M ++ v :: B ++ S = P ++ u :: (A ++ M ++ v :: B ++ S) by simp]; exact rd_at _ _ _ _ ha
    have r2 : rd (P ++ u :: A ++ M ++ v :: B ++ S) (b0 + i) = v := by
      rw [show P ++ u :: A ++ M ++ v :: B ++ S = (P ++ u :: A ++ M) ++ v :: (B ++ S) by simp]; exact rd_at _ _ _ _ (by simp; omega)
    have s1 : (P ++ u :: A ++ M ++ v :: B ++ S).set (a + i).toNat v = P ++ v :: A ++ M ++ v :: B ++ S := by
      rw [show P ++ u :: A ++ M ++ v :: B ++ S = P ++ u :: (A ++ M ++ v :: B ++ S) by simp, set_at _ _ _ _ _ ha]; simp
    have s2 : (P ++ v :: A ++ M ++ v :: B ++ S).set (b0 + i).toNat u = P ++ v :: A ++ M ++ u :: B ++ S := by
      rw [show P ++ v :: A ++ M ++ v :: B ++ S = (P ++ v :: A ++ M) ++ v :: (B ++ S) by simp, set_at _ _ _ _ _ (by simp; omega)]; simp
    have hlen : ((P ++ u :: A ++ M ++ v :: B ++ S).length : Int) = P.length + A.length + M.length + B.length + S.length + 2 := by simp; omega
    have g0 : i < n := by omega
    have g1 : 0 ≤ b0 + i := by omega
    have g2 : b0 + i < ((P ++ u :: A ++ M ++ v :: B ++ S).length : Int) := by omega
    have g3 : 0 ≤ a + i := by omega
    have g4 : a + i < ((P ++ u :: A ++ M ++ v :: B ++ S).length : Int) := by omega
    simp only [slices_swapRangeCmpFunc_int__split_ranked_1.l0, e1, e2, e3, if_pos g0, if_pos g1, if_pos g2, if_pos g3, if_pos g4, r1, r2, s1, s2]; rw [show P ++ v :: A ++ M ++ u :: B ++ S = (P ++ [v]) ++ A ++ (M ++ [u]) ++ B ++ S by simp, show P ++ v :: B ++ M ++ u :: A ++ S = (P ++ [v]) ++ B ++ (M ++ [u]) ++ A ++ S by simp]; exact ih
theorem slices_swapRangeCmpFunc_int__split_ranked_1.f_swap (s A B P M S : List Int) (a b n : Int) (hl : A.length = B.length) (ha : a = (P.length : Int)) (hb : b = (P.length : Int) + A.length + M.length) (hn : n = A.length) (hs : (P ++ A ++ M ++ B ++ S).length < 1000000) :
    Ev (fun k => slices_swapRangeCmpFunc_int__split_ranked_1.f k (P ++ A ++ M ++ B ++ S) a b n s) (P ++ B ++ M ++ A ++ S) :=
  slices_swapRangeCmpFunc_int__split_ranked_1.swap s b n A B P M S a 0 hl (by omega) (by omega) (by omega) (by omega) (by omega) hs
theorem slices_rotateCmpFunc_int__split_ranked_1.rot (s : List Int) : ∀ (N : Nat) (P A B S : List Int) (m i j : Int), A.length + B.length ≤ N → 0 < A.length → 0 < B.length → i = A.length → j = B.length → m = (P.length : Int) + A.length → (P ++ A ++ B ++ S).length < 1000000 →
    Ev (fun k => slices_rotateCmpFunc_int__split_ranked_1.l0 k (P ++ A ++ B ++ S) m i j s) (P ++ B ++ A ++ S)
  | 0, P, A, B, S, m, i, j, hN, hA, hB, _, _, _, _ => by omega
  | N + 1, P, A, B, S, m, i, j, hN, hA, hB, hi, hj, hm, hs => by
    refine Ev.succ ?_; have hs' : P.length + A.length + B.length + S.length < 1000000 := by simpa [Nat.add_assoc] using hs
    have e1 : wrap64 (m - i) = m - i := w64 (by omega) (by omega)
    by_cases h1 : i = j
    · simp only [slices_rotateCmpFunc_int__split_ranked_1.l0, if_pos h1, e1]; have h := slices_swapRangeCmpFunc_int__split_ranked_1.f_swap s A B P [] S (m - i) m i (by omega) (by omega) (by simp; omega) (by omega) (by simp; omega); simp only [List.append_nil] at h; exact Ev.bind h (Ev.const _)
    · by_cases h2 : i > j
      · simp only [slices_rotateCmpFunc_int__split_ranked_1.l0, if_neg h1, if_pos h2, e1]; obtain ⟨A1, A2, rfl, l1, l2⟩ := split_at A B.length (by omega); simp only [List.length_append] at *; have h := slices_swapRangeCmpFunc_int__split_ranked_1.f_swap s A1 B P A2 S (m - i) m j (by omega) (by omega) (by omega) (by omega) (by simp; omega); have ih := slices_rotateCmpFunc_int__split_ranked_1.rot s N (P ++ B) A2 A1 S m (i - j) j (by omega) (by omega) (by omega) (by omega) (by omega) (by simp; omega) (by simp; omega); have e2 : wrap64 (i - j) = i - j := w64 (by omega) (by omega); rw [e2]; refine Ev.bind (a := P ++ B ++ A2 ++ A1 ++ S) ?_ ?_
        · simpa [List.append_assoc] using h
        · simpa [List.append_assoc] using ih
      · simp only [slices_rotateCmpFunc_int__split_ranked_1.l0, if_neg h1, if_neg h2, e1]; obtain ⟨B1, B2, rfl, l1, l2⟩ := split_at B (B.length - A.length) (by omega); simp only [List.length_append] at *; have e2 : wrap64 (wrap64 (m + j) - i) = m + j - i := by rw [w64 (n := m + j) (by omega) (by omega)]; exact w64 (by omega) (by omega)
        have e3 : wrap64 (j - i) = j - i := w64 (by omega) (by omega); have h := slices_swapRangeCmpFunc_int__split_ranked_1.f_swap s A B2 P B1 S (m - i) (m + j - i) i (by omega) (by omega) (by omega) (by omega) (by simp; omega); have ih := slices_rotateCmpFunc_int__split_ranked_1.rot s N P B2 B1 (A ++ S) m i (j - i) (by omega) (by omega) (by omega) (by omega) (by omega) (by omega) (by simp; omega); rw [e2, e3]; refine Ev.bind (a := P ++ B2 ++ B1 ++ A ++ S) ?_ ?_
        · simpa [List.append_assoc] using h
        · simpa [List.append_assoc] using ih
theorem slices_rotateCmpFunc_int__split_ranked_1.f_rot (s P A B S : List Int) (a m b : Int) (hA : 0 < A.length) (hB : 0 < B.length) (ha : a = P.length) (hm : m = (P.length : Int) + A.length) (hb : b = (P.length : Int) + A.length + B.length) (hs : (P ++ A ++ B ++ S).length < 1000000) :
    Ev (fun k => slices_rotateCmpFunc_int__split_ranked_1.f k (P ++ A ++ B ++ S) a m b s) (P ++ B ++ A ++ S) := by
  have hs' : P.length + A.length + B.length + S.length < 1000000 := by simpa [Nat.add_assoc] using hs
  have e1 : wrap64 (m - a) = m - a := w64 (by omega) (by omega); have e2 : wrap64 (b - m) = b - m := w64 (by omega) (by omega); simp only [slices_rotateCmpFunc_int__split_ranked_1.f, e1, e2]; exact slices_rotateCmpFunc_int__split_ranked_1.rot s _ P A B S m (m - a) (b - m) (Nat.le_refl _) hA hB (by omega) (by omega) hm hs
structure Tot (lt : Int → Int → Prop) : Prop where
  trans : ∀ x y z, lt x y → lt y z → lt x z
  tot : ∀ x y, x ≠ y → lt x y ∨ lt y x
  irr : ∀ x, ¬ lt x x
theorem Tot.asym {lt : Int → Int → Prop} (o : Tot lt) {x y : Int} (h : lt x y) : ¬ lt y x := fun k => o.irr x (o.trans _ _ _ h k)
def Cm (s : List Int) (lt : Int → Int → Prop) (x y : Int) : Prop := x ≠ y ∧ ∃ v, split_ranked_1.f y x s = some v ∧ (v < 0 ↔ lt y x)
theorem slices_insertionSortCmpFunc_int__split_ranked_1.in1 (s : List Int) (lt : Int → Int → Prop) (o : Tot lt) (a b i : Int) (u : Int) (P T : List Int) (ha : a = (P.length : Int)) : ∀ (N : Nat) (L1 L2 : List Int) (j : Int), L1.length = N → j = a + N → (∀ y ∈ L1, Cm s lt y u) → (L1 ++ L2).Pairwise lt → (∀ y ∈ L2, lt u y) → (P ++ (L1 ++ u :: L2) ++ T).length < 1000000 →
    ∃ L', L'.Perm (L1 ++ u :: L2) ∧ L'.Pairwise lt ∧ ∀ r, Ev (fun k => slices_insertionSortCmpFunc_int__split_ranked_1.l0 k (P ++ L' ++ T) a b (wrap64 (i + 1)) s) r → Ev (fun k => slices_insertionSortCmpFunc_int__split_ranked_1.l1 k (P ++ (L1 ++ u :: L2) ++ T) a b i j s) r
  | 0, L1, L2, j, hN, hj, hc, hp, hu, hs => by
    obtain rfl : L1 = [] := List.eq_nil_of_length_eq_zero hN; refine ⟨u :: L2, List.Perm.refl _, List.pairwise_cons.2 ⟨hu, by simpa using hp⟩, fun r h => Ev.succ ?_⟩; have g : ¬ j > a := by simp at hj; omega
    simp only [slices_insertionSortCmpFunc_int__split_ranked_1.l1, if_neg g]; exact h
  | N + 1, L1, L2, j, hN, hj, hc, hp, hu, hs => by
    obtain ⟨L1, y, rfl⟩ : ∃ L y, L1 = L ++ [y] := by
      have hne : L1 ≠ [] := by intro h; rw [h] at hN; simp at hN
      exact ⟨L1.dropLast, L1.getLast hne, (List.dropLast_concat_getLast hne).symm⟩
    have hN' : L1.length = N := by simpa using hN
    have hs' : P.length + L1.length + L2.length + T.length + 2 < 1000000 := by simp only [List.length_append, List.length_cons, List.length_nil] at hs; omega
    obtain ⟨hne, v, hv, hvl⟩ := hc y (by simp); have e1 : wrap64 (j - 1) = j - 1 := w64 (by omega) (by omega)
    have r1 : rd (P ++ (L1 ++ [y] ++ u :: L2) ++ T) j = u := by
      rw [show P ++ (L1 ++ [y] ++ u :: L2) ++ T = (P ++ L1 ++ [y]) ++ u :: (L2 ++ T) by simp]; exact rd_at _ _ _ _ (by simp; omega)
    have r2 : rd (P ++ (L1 ++ [y] ++ u :: L2) ++ T) (j - 1) = y := by
      rw [show P ++ (L1 ++ [y] ++ u :: L2) ++ T = (P ++ L1) ++ y :: (u :: L2 ++ T) by simp]; exact rd_at _ _ _ _ (by simp; omega)
    have s1 : (P ++ (L1 ++ [y] ++ u :: L2) ++ T).set j.toNat y = P ++ (L1 ++ [y] ++ y :: L2) ++ T := by
      rw [show P ++ (L1 ++ [y] ++ u :: L2) ++ T = (P ++ L1 ++ [y]) ++ u :: (L2 ++ T) by simp, set_at _ _ _ _ _ (by simp; omega)]; simp
    have s2 : (P ++ (L1 ++ [y] ++ y :: L2) ++ T).set (j - 1).toNat u = P ++ (L1 ++ u :: (y :: L2)) ++ T := by
      rw [show P ++ (L1 ++ [y] ++ y :: L2) ++ T = (P ++ L1) ++ y :: (y :: L2 ++ T) by simp, set_at _ _ _ _ _ (by simp; omega)]; simp
    have hlen : ((P ++ (L1 ++ [y] ++ u :: L2) ++ T).length : Int) = P.length + L1.length + L2.length + T.length + 2 := by simp; omega
    have g0 : j > a := by omega
    have g1 : 0 ≤ j := by omega
    have g2 : j < ((P ++ (L1 ++ [y] ++ u :: L2) ++ T).length : Int) := by omega
    have g3 : 0 ≤ j - 1 := by omega
    have g4 : j - 1 < ((P ++ (L1 ++ [y] ++ u :: L2) ++ T).length : Int) := by omega
    by_cases hlt : lt u y
    · obtain ⟨L', q1, q2, q3⟩ := slices_insertionSortCmpFunc_int__split_ranked_1.in1 s lt o a b i u P T ha N L1 (y :: L2) (j - 1) hN' (by omega) (fun z hz => hc z (by simp [hz])) (by simpa using hp) (fun z hz => by
        rcases List.mem_cons.1 hz with rfl | hz
        · exact hlt
        · exact hu z hz) (by simp only [List.length_append, List.length_cons]; omega)
      refine ⟨L', q1.trans ?_, q2, fun r h => Ev.succ ?_⟩
      · rw [List.append_assoc]; exact List.Perm.append_left L1 (List.Perm.swap y u L2)
      · have hv0 : v < 0 := hvl.2 hlt; simp only [slices_insertionSortCmpFunc_int__split_ranked_1.l1, if_pos g0, e1, if_pos g1, if_pos g2, if_pos g3, if_pos g4, r1, r2, hv, Option.bind_some, if_pos hv0, s1, s2]; exact q3 r h
    · have hv0 : ¬ v < 0 := fun k => hlt (hvl.1 k); have hyu : lt y u := (o.tot y u hne).resolve_right hlt; refine ⟨L1 ++ [y] ++ u :: L2, List.Perm.refl _, ?_, fun r h => Ev.succ ?_⟩
      · obtain ⟨p1, p2, p3⟩ := List.pairwise_append.1 hp; refine List.pairwise_append.2 ⟨p1, List.pairwise_cons.2 ⟨hu, p2⟩, fun z hz w hw => ?_⟩
        rcases List.mem_cons.1 hw with rfl | hw
        · rcases List.mem_append.1 hz with hz1 | hz1
          · exact o.trans _ _ _ ((List.pairwise_append.1 p1).2.2 z hz1 y (by simp)) hyu
          · rw [List.mem_singleton.1 hz1]; exact hyu
        · exact p3 z hz w hw
      · simp only [slices_insertionSortCmpFunc_int__split_ranked_1.l1, if_pos g0, e1, if_pos g1, if_pos g2, if_pos g3, if_pos g4, r1, r2, hv, Option.bind_some, if_neg hv0]; exact h
theorem slices_insertionSortCmpFunc_int__split_ranked_1.out (s : List Int) (lt : Int → Int → Prop) (o : Tot lt) (a b : Int) (P T : List Int) (ha : a = (P.length : Int)) : ∀ (R L : List Int) (i : Int), i = a + L.length → b = i + R.length → L.Pairwise lt → (∀ x ∈ L, ∀ y ∈ R, Cm s lt x y) → R.Pairwise (Cm s lt) → (P ++ (L ++ R) ++ T).length < 1000000 →
    ∃ M, M.Perm (L ++ R) ∧ M.Pairwise lt ∧ Ev (fun k => slices_insertionSortCmpFunc_int__split_ranked_1.l0 k (P ++ (L ++ R) ++ T) a b i s) (P ++ M ++ T)
  | [], L, i, hi, hb, hp, _, _, _ => by
    refine ⟨L, by simp, hp, Ev.succ ?_⟩; have g : ¬ i < b := by simp at hb; omega
    simp only [slices_insertionSortCmpFunc_int__split_ranked_1.l0, if_neg g, List.append_nil]; exact Ev.const _
  | u :: R, L, i, hi, hb, hp, hc, hr, hs => by
    have hs' : P.length + L.length + R.length + T.length + 1 < 1000000 := by simp only [List.length_append, List.length_cons] at hs; omega
    simp only [List.length_cons] at hb; obtain ⟨L', q1, q2, q3⟩ := slices_insertionSortCmpFunc_int__split_ranked_1.in1 s lt o a b i u P (R ++ T) ha L.length L [] i rfl hi (fun y hy => hc y hy u (by simp)) (by simpa using hp) (by simp) (by simp only [List.length_append, List.length_cons, List.length_nil]; omega); have e1 : wrap64 (i + 1) = i + 1 := w64 (by omega) (by omega); have hl' : L'.length = L.length + 1 := by simpa using q1.length_eq
    obtain ⟨M, m1, m2, m3⟩ := slices_insertionSortCmpFunc_int__split_ranked_1.out s lt o a b P T ha R L' (i + 1) (by omega) (by omega) q2 (fun x hx y hy => by
      rcases List.mem_append.1 (q1.mem_iff.1 hx) with h | h
      · exact hc x h y (by simp [hy])
      · obtain rfl : x = u := by simpa using h
        exact (List.pairwise_cons.1 hr).1 y hy) (List.pairwise_cons.1 hr).2 pbb7_1
    refine ⟨M, m1.trans ?_, m2, Ev.succ ?_⟩
    · have := List.Perm.append_right R q1
      simpa using this
    · have g : i < b := by omega
      simp only [slices_insertionSortCmpFunc_int__split_ranked_1.l0, if_pos g]; have := q3 (P ++ M ++ T) (by rw [e1]; simpa using m3)
      simpa using this
theorem slices_insertionSortCmpFunc_int__split_ranked_1.f_sort (s : List Int) (lt : Int → Int → Prop) (o : Tot lt) (a b : Int) (P R T : List Int) (ha : a = (P.length : Int)) (hb : b = a + R.length) (hr : R.Pairwise (Cm s lt)) (hs : (P ++ R ++ T).length < 1000000) :
    ∃ M, M.Perm R ∧ M.Pairwise lt ∧ Ev (fun k => slices_insertionSortCmpFunc_int__split_ranked_1.f k (P ++ R ++ T) a b s) (P ++ M ++ T) := by
  have hs' : P.length + R.length + T.length < 1000000 := by simpa [Nat.add_assoc] using hs
  have e1 : wrap64 (a + 1) = a + 1 := w64 (by omega) (by omega); simp only [slices_insertionSortCmpFunc_int__split_ranked_1.f, e1]
  cases R with
  | nil =>
    refine ⟨[], List.Perm.refl _, List.Pairwise.nil, Ev.succ ?_⟩; have g : ¬ a + 1 < b := by simp at hb; omega
    simp only [slices_insertionSortCmpFunc_int__split_ranked_1.l0, if_neg g]; exact Ev.const _
  | cons u R =>
    simp only [List.length_cons] at hb
    have h := slices_insertionSortCmpFunc_int__split_ranked_1.out s lt o a b P T ha R [u] (a + 1) (by simp) (by omega) (by simp) (fun x hx y hy => by
      obtain rfl : x = u := by simpa using hx
      exact (List.pairwise_cons.1 hr).1 y hy) (List.pairwise_cons.1 hr).2 (by simpa using hs)
    simpa using h
theorem slices_symMergeCmpFunc_int__split_ranked_1.up (P T : List Int) (u : Int) (i : Int) : ∀ (R : List Int) (P : List Int) (kk : Int), kk = (P.length : Int) → i = kk + 1 + R.length → (P ++ u :: R ++ T).length < 1000000 → Ev (fun k => slices_symMergeCmpFunc_int__split_ranked_1.l1 k (P ++ u :: R ++ T) i kk) (P ++ R ++ u :: T)
  | [], P, kk, hk, hi, hs => by
    refine Ev.succ ?_; have hs' : P.length + T.length + 1 < 1000000 := by simp only [List.length_append, List.length_cons, List.length_nil] at hs; omega
    have e1 : wrap64 (i - 1) = i - 1 := w64 (by simp at hi; omega) (by simp at hi; omega); have g : ¬ kk < i - 1 := by simp at hi; omega
    simp only [slices_symMergeCmpFunc_int__split_ranked_1.l1, e1, if_neg g]
    simpa using Ev.const _
  | y :: R, P, kk, hk, hi, hs => by
    have hs' : P.length + R.length + T.length + 2 < 1000000 := by simp only [List.length_append, List.length_cons] at hs; omega
    simp only [List.length_cons] at hi; have e1 : wrap64 (i - 1) = i - 1 := w64 (by omega) (by omega); have e2 : wrap64 (kk + 1) = kk + 1 := w64 (by omega) (by omega)
    have r1 : rd (P ++ u :: y :: R ++ T) kk = u := by
      rw [show P ++ u :: y :: R ++ T = P ++ u :: (y :: R ++ T) by simp]; exact rd_at _ _ _ _ hk
    have r2 : rd (P ++ u :: y :: R ++ T) (kk + 1) = y := by
      rw [show P ++ u :: y :: R ++ T = (P ++ [u]) ++ y :: (R ++ T) by simp]; exact rd_at _ _ _ _ (by simp; omega)
    have s1 : (P ++ u :: y :: R ++ T).set kk.toNat y = P ++ y :: y :: R ++ T := by
      rw [show P ++ u :: y :: R ++ T = P ++ u :: (y :: R ++ T) by simp, set_at _ _ _ _ _ hk]; simp
    have s2 : (P ++ y :: y :: R ++ T).set (kk + 1).toNat u = (P ++ [y]) ++ u :: R ++ T := by
      rw [show P ++ y :: y :: R ++ T = (P ++ [y]) ++ y :: (R ++ T) by simp, set_at _ _ _ _ _ (by simp; omega)]; simp
    have hlen : ((P ++ u :: y :: R ++ T).length : Int) = P.length + R.length + T.length + 2 := by simp; omega
    have g0 : kk < i - 1 := by omega
    have g1 : 0 ≤ kk := by omega
    have g2 : kk < ((P ++ u :: y :: R ++ T).length : Int) := by omega
    have g3 : 0 ≤ kk + 1 := by omega
    have g4 : kk + 1 < ((P ++ u :: y :: R ++ T).length : Int) := by omega
    have ih := slices_symMergeCmpFunc_int__split_ranked_1.up P T u i R (P ++ [y]) (kk + 1) (by simp; omega) (by omega) (by simp only [List.length_append, List.length_cons, List.length_nil]; omega); refine Ev.succ ?_; simp only [slices_symMergeCmpFunc_int__split_ranked_1.l1, e1, e2, if_pos g0, if_pos g1, if_pos g2, if_pos g3, if_pos g4, r1, r2, s1, s2]
    simpa using ih
theorem slices_symMergeCmpFunc_int__split_ranked_1.down (P : List Int) (u : Int) (i : Int) (hi : i = (P.length : Int)) : ∀ (N : Nat) (L T : List Int) (kk : Int), L.length = N → kk = i + N → (P ++ L ++ u :: T).length < 1000000 → Ev (fun k => slices_symMergeCmpFunc_int__split_ranked_1.l3 k (P ++ L ++ u :: T) i kk) (P ++ u :: L ++ T)
  | 0, L, T, kk, hN, hk, hs => by
    obtain rfl : L = [] := List.eq_nil_of_length_eq_zero hN; refine Ev.succ ?_; have g : ¬ kk > i := by simp at hk; omega
    simp only [slices_symMergeCmpFunc_int__split_ranked_1.l3, if_neg g]
    simpa using Ev.const _
  | N + 1, L, T, kk, hN, hk, hs => by
    obtain ⟨L, y, rfl⟩ : ∃ L' y, L = L' ++ [y] := by
      have hne : L ≠ [] := by intro h; rw [h] at hN; simp at hN
      exact ⟨L.dropLast, L.getLast hne, (List.dropLast_concat_getLast hne).symm⟩
    have hN' : L.length = N := by simpa using hN
    have hs' : P.length + L.length + T.length + 2 < 1000000 := by simp only [List.length_append, List.length_cons, List.length_nil] at hs; omega
    have e1 : wrap64 (kk - 1) = kk - 1 := w64 (by omega) (by omega); have r1 : rd (P ++ (L ++ [y]) ++ u :: T) kk = u := rd_at _ _ _ _ (by simp; omega)
    have r2 : rd (P ++ (L ++ [y]) ++ u :: T) (kk - 1) = y := by
      rw [show P ++ (L ++ [y]) ++ u :: T = (P ++ L) ++ y :: (u :: T) by simp]; exact rd_at _ _ _ _ (by simp; omega)
    have s1 : (P ++ (L ++ [y]) ++ u :: T).set kk.toNat y = P ++ (L ++ [y]) ++ y :: T := set_at _ _ _ _ _ (by simp; omega)
    have s2 : (P ++ (L ++ [y]) ++ y :: T).set (kk - 1).toNat u = P ++ L ++ u :: (y :: T) := by
      rw [show P ++ (L ++ [y]) ++ y :: T = (P ++ L) ++ y :: (y :: T) by simp, set_at _ _ _ _ _ (by simp; omega)]
    have hlen : ((P ++ (L ++ [y]) ++ u :: T).length : Int) = P.length + L.length + T.length + 2 := by simp; omega
    have g0 : kk > i := by omega
    have g1 : 0 ≤ kk := by omega
    have g2 : kk < ((P ++ (L ++ [y]) ++ u :: T).length : Int) := by omega
    have g3 : 0 ≤ kk - 1 := by omega
    have g4 : kk - 1 < ((P ++ (L ++ [y]) ++ u :: T).length : Int) := by omega
    have ih := slices_symMergeCmpFunc_int__split_ranked_1.down P u i hi N L (y :: T) (kk - 1) hN' (by omega) (by simp only [List.length_append, List.length_cons]; omega); refine Ev.succ ?_; simp only [slices_symMergeCmpFunc_int__split_ranked_1.l3, e1, if_pos g0, if_pos g1, if_pos g2, if_pos g3, if_pos g4, r1, r2, s1, s2]
    simpa using ih
theorem slices_symMergeCmpFunc_int__split_ranked_1.mid {i j : Int} (h0 : 0 ≤ i) (h1 : i ≤ j) (h2 : j < 2000000) : wrap64 (IntKind.u64.wrap (wrap64 (i + j)) / 2) = (i + j) / 2 := by
  rw [w64 (n := i + j) (by omega) (by omega), u64w (by omega) (by omega)]; exact w64 (by omega) (by omega)
theorem slices_symMergeCmpFunc_int__split_ranked_1.one_left (s : List Int) (lt : Int → Int → Prop) (o : Tot lt) (P R T : List Int) (u a m b : Int) (ha : a = (P.length : Int)) (hm : m = a + 1) (hb : b = m + R.length) (hR : R.Pairwise lt) (hc : ∀ y ∈ R, Cm s lt u y) (hs : (P ++ [u] ++ R ++ T).length < 1000000) :
    ∃ M, M.Perm ([u] ++ R) ∧ M.Pairwise lt ∧ Ev (fun k => slices_symMergeCmpFunc_int__split_ranked_1.l0 k (P ++ [u] ++ R ++ T) a m b s) (P ++ M ++ T) := by
  have hs' : P.length + R.length + T.length + 1 < 1000000 := by simp only [List.length_append, List.length_cons, List.length_nil] at hs; omega
  have hlen : ((P ++ [u] ++ R ++ T).length : Int) = P.length + R.length + T.length + 1 := by simp; omega
  have ru : rd (P ++ [u] ++ R ++ T) a = u := by
    rw [show P ++ [u] ++ R ++ T = P ++ u :: (R ++ T) by simp]; exact rd_at _ _ _ _ ha
  have hl1 : ((P ++ [u]).length : Int) = m := by simp; omega
  have hmem : ∀ c, m ≤ c → c < b → rd (P ++ [u] ++ R ++ T) c ∈ R := fun c c0 c1 => rd_mem (P ++ [u]) R T c (by omega) (by omega); have hlt : ∀ c d, m ≤ c → c < d → d < b → lt (rd (P ++ [u] ++ R ++ T) c) (rd (P ++ [u] ++ R ++ T) d) := fun c d c0 c1 c2 => rd_lt (P ++ [u]) R T hR c d (by omega) c1 (by omega)
  obtain ⟨t, t1, t2, t3, t4, t5⟩ := bsearch (fun i j k => slices_symMergeCmpFunc_int__split_ranked_1.l0 k (P ++ [u] ++ R ++ T) a i j s) (fun i k => slices_symMergeCmpFunc_int__split_ranked_1.l1 k (P ++ [u] ++ R ++ T) i a) (fun c => lt (rd (P ++ [u] ++ R ++ T) c) u) m b
    (fun i j r i0 ij j0 q h => by
      refine Ev.succ ?_; have e := slices_symMergeCmpFunc_int__split_ranked_1.mid (i := i) (j := j) (by omega) (by omega) (by omega); have e2 : wrap64 ((i + j) / 2 + 1) = (i + j) / 2 + 1 := w64 (by omega) (by omega); obtain ⟨_, v, hv, hvl⟩ := hc _ (hmem ((i + j) / 2) (by omega) (by omega)); have hv0 : v < 0 := hvl.2 q; have g1 : 0 ≤ (i + j) / 2 := by omega
      have g2 : (i + j) / 2 < ((P ++ [u] ++ R ++ T).length : Int) := by omega
      have g3 : 0 ≤ a := by omega
      have g4 : a < ((P ++ [u] ++ R ++ T).length : Int) := by omega
      simp only [slices_symMergeCmpFunc_int__split_ranked_1.l0, e, e2, if_pos ij, if_pos g1, if_pos g2, if_pos g3, if_pos g4, ru, hv, Option.bind_some, if_pos hv0]; exact h)
    (fun i j r i0 ij j0 q h => by
      refine Ev.succ ?_; have e := slices_symMergeCmpFunc_int__split_ranked_1.mid (i := i) (j := j) (by omega) (by omega) (by omega); obtain ⟨_, v, hv, hvl⟩ := hc _ (hmem ((i + j) / 2) (by omega) (by omega)); have hv0 : ¬ v < 0 := fun k => q (hvl.1 k); have g1 : 0 ≤ (i + j) / 2 := by omega
      have g2 : (i + j) / 2 < ((P ++ [u] ++ R ++ T).length : Int) := by omega
      have g3 : 0 ≤ a := by omega
      have g4 : a < ((P ++ [u] ++ R ++ T).length : Int) := by omega
      simp only [slices_symMergeCmpFunc_int__split_ranked_1.l0, e, if_pos ij, if_pos g1, if_pos g2, if_pos g3, if_pos g4, ru, hv, Option.bind_some, if_neg hv0]; exact h)
    (fun i r _ _ h => by
      refine Ev.succ ?_; simp only [slices_symMergeCmpFunc_int__split_ranked_1.l0, if_neg (Int.lt_irrefl i)]; exact h)
    (fun c d c0 c1 c2 q => o.trans _ _ _ (hlt c d c0 c1 c2) q) _ m b (Nat.le_refl _) (by omega) (Int.le_refl _) (Int.le_refl _) (fun c c0 c1 => by omega) (fun c c0 c1 => by omega)
  obtain ⟨R1, R2, rfl, l1, l2⟩ := split_at R (t - m).toNat (by omega); rw [List.length_append] at hb; obtain ⟨p1, p2, p3⟩ := List.pairwise_append.1 hR
  have q1 : ∀ y ∈ R1, lt y u := fun y hy => by
    obtain ⟨c, c0, c1, rfl⟩ := mem_rd (P ++ [u]) R1 (R2 ++ T) y hy; have := t3 c (by omega) (by omega)
    simpa using this
  have q2 : ∀ y ∈ R2, lt u y := fun y hy => by
    obtain ⟨c, c0, c1, e⟩ := mem_rd (P ++ [u] ++ R1) R2 T y hy; have := t4 c (by rw [List.length_append] at c0; omega) (by rw [List.length_append] at c1; omega); have e' : rd (P ++ [u] ++ (R1 ++ R2) ++ T) c = y := by simpa using e
    rw [e'] at this; exact (o.tot u y (hc y (by simp [hy])).1).resolve_right this
  refine ⟨R1 ++ u :: R2, ?_, ?_, t5 _ ?_⟩
  · exact List.perm_middle
  · refine List.pairwise_append.2 ⟨p1, List.pairwise_cons.2 ⟨q2, p2⟩, fun y hy z hz => ?_⟩
    rcases List.mem_cons.1 hz with rfl | hz
    · exact q1 y hy
    · exact p3 y hy z hz
  · have := slices_symMergeCmpFunc_int__split_ranked_1.up P (R2 ++ T) u t R1 P a ha (by omega) (by simp only [List.length_append, List.length_cons] at *; omega)
    simpa using this
theorem slices_symMergeCmpFunc_int__split_ranked_1.one_right (s : List Int) (lt : Int → Int → Prop) (o : Tot lt) (P L T : List Int) (u a m b : Int) (ha : a = (P.length : Int)) (hm : m = a + L.length) (hL : L.Pairwise lt) (hc : ∀ x ∈ L, Cm s lt x u) (hs : (P ++ L ++ [u] ++ T).length < 1000000) :
    ∃ M, M.Perm (L ++ [u]) ∧ M.Pairwise lt ∧ Ev (fun k => slices_symMergeCmpFunc_int__split_ranked_1.l2 k (P ++ L ++ [u] ++ T) m a m s) (P ++ M ++ T) := by
  have hs' : P.length + L.length + T.length + 1 < 1000000 := by simp only [List.length_append, List.length_cons, List.length_nil] at hs; omega
  have hlen : ((P ++ L ++ [u] ++ T).length : Int) = P.length + L.length + T.length + 1 := by simp; omega
  have ru : rd (P ++ L ++ [u] ++ T) m = u := by
    rw [show P ++ L ++ [u] ++ T = (P ++ L) ++ u :: T by simp]; exact rd_at _ _ _ _ (by simp; omega)
  have hmem : ∀ c, a ≤ c → c < m → rd (P ++ L ++ [u] ++ T) c ∈ L := fun c c0 c1 => by
    rw [show P ++ L ++ [u] ++ T = P ++ L ++ ([u] ++ T) by simp]; exact rd_mem P L _ c (by omega) (by omega)
  have hlt : ∀ c d, a ≤ c → c < d → d < m → lt (rd (P ++ L ++ [u] ++ T) c) (rd (P ++ L ++ [u] ++ T) d) := fun c d c0 c1 c2 => by
    rw [show P ++ L ++ [u] ++ T = P ++ L ++ ([u] ++ T) by simp]; exact rd_lt P L _ hL c d (by omega) c1 (by omega)
  obtain ⟨t, t1, t2, t3, t4, t5⟩ := bsearch (fun i j k => slices_symMergeCmpFunc_int__split_ranked_1.l2 k (P ++ L ++ [u] ++ T) m i j s) (fun i k => slices_symMergeCmpFunc_int__split_ranked_1.l3 k (P ++ L ++ [u] ++ T) i m) (fun c => ¬ lt u (rd (P ++ L ++ [u] ++ T) c)) a m
    (fun i j r i0 ij j0 q h => by
      refine Ev.succ ?_; have e := slices_symMergeCmpFunc_int__split_ranked_1.mid (i := i) (j := j) (by omega) (by omega) (by omega); have e2 : wrap64 ((i + j) / 2 + 1) = (i + j) / 2 + 1 := w64 (by omega) (by omega); obtain ⟨_, v, hv, hvl⟩ := hc _ (hmem ((i + j) / 2) (by omega) (by omega)); have hv0 : ¬ v < 0 := fun k => q (hvl.1 k); have g1 : 0 ≤ (i + j) / 2 := by omega
      have g2 : (i + j) / 2 < ((P ++ L ++ [u] ++ T).length : Int) := by omega
      have g3 : 0 ≤ m := by omega
      have g4 : m < ((P ++ L ++ [u] ++ T).length : Int) := by omega
      simp only [slices_symMergeCmpFunc_int__split_ranked_1.l2, e, e2, if_pos ij, if_pos g1, if_pos g2, if_pos g3, if_pos g4, ru, hv, Option.bind_some, if_neg hv0]; exact h)
    (fun i j r i0 ij j0 q h => by
      refine Ev.succ ?_; have e := slices_symMergeCmpFunc_int__split_ranked_1.mid (i := i) (j := j) (by omega) (by omega) (by omega); obtain ⟨_, v, hv, hvl⟩ := hc _ (hmem ((i + j) / 2) (by omega) (by omega)); have hv0 : v < 0 := hvl.2 (Classical.not_not.1 q); have g1 : 0 ≤ (i + j) / 2 := by omega
      have g2 : (i + j) / 2 < ((P ++ L ++ [u] ++ T).length : Int) := by omega
      have g3 : 0 ≤ m := by omega
      have g4 : m < ((P ++ L ++ [u] ++ T).length : Int) := by omega
      simp only [slices_symMergeCmpFunc_int__split_ranked_1.l2, e, if_pos ij, if_pos g1, if_pos g2, if_pos g3, if_pos g4, ru, hv, Option.bind_some, if_pos hv0]; exact h)
    (fun i r _ _ h => by
      refine Ev.succ ?_; simp only [slices_symMergeCmpFunc_int__split_ranked_1.l2, if_neg (Int.lt_irrefl i)]; exact h)
    (fun c d c0 c1 c2 q k => q (o.trans _ _ _ k (hlt c d c0 c1 c2))) _ a m (Nat.le_refl _) (by omega) (Int.le_refl _) (Int.le_refl _) (fun c c0 c1 => by omega) (fun c c0 c1 => by omega)
  obtain ⟨L1, L2, rfl, l1, l2⟩ := split_at L (t - a).toNat (by omega); rw [List.length_append] at hm; obtain ⟨p1, p2, p3⟩ := List.pairwise_append.1 hL
  have q1 : ∀ y ∈ L1, lt y u := fun y hy => by
    obtain ⟨c, c0, c1, e⟩ := mem_rd P L1 (L2 ++ [u] ++ T) y hy; have := t3 c (by omega) (by omega); have e' : rd (P ++ (L1 ++ L2) ++ [u] ++ T) c = y := by simpa using e
    rw [e'] at this; exact (o.tot u y (Ne.symm (hc y (by simp [hy])).1)).resolve_left this
  have q2 : ∀ y ∈ L2, lt u y := fun y hy => by
    obtain ⟨c, c0, c1, e⟩ := mem_rd (P ++ L1) L2 ([u] ++ T) y hy; have := Classical.not_not.1 (t4 c (by rw [List.length_append] at c0; omega) (by rw [List.length_append] at c1; omega)); have e' : rd (P ++ (L1 ++ L2) ++ [u] ++ T) c = y := by simpa using e
    rwa [e'] at this
  refine ⟨L1 ++ u :: L2, ?_, ?_, t5 _ ?_⟩
  · rw [List.append_assoc]; exact List.Perm.append_left L1 (List.perm_append_comm (l₁ := [u]) (l₂ := L2))
  · refine List.pairwise_append.2 ⟨p1, List.pairwise_cons.2 ⟨q2, p2⟩, fun y hy z hz => ?_⟩
    rcases List.mem_cons.1 hz with rfl | hz
    · exact q1 y hy
    · exact p3 y hy z hz
  · have := slices_symMergeCmpFunc_int__split_ranked_1.down (P ++ L1) u t pbb7_2 L2.length L2 T m rfl (by omega) (by simp only [List.length_append, List.length_cons, List.length_nil] at *; omega)
    simpa using this
def slices_symMergeCmpFunc_int__split_ranked_1.Ok (s : List Int) (lt : Int → Int → Prop) (P L R T : List Int) (a m b : Int) : Prop :=
  ∃ M, M.Perm (L ++ R) ∧ M.Pairwise lt ∧ Ev (fun k => slices_symMergeCmpFunc_int__split_ranked_1.f k (P ++ L ++ R ++ T) a m b s) (P ++ M ++ T)
theorem slices_symMergeCmpFunc_int__split_ranked_1.tail (s : List Int) (lt : Int → Int → Prop) (P L1 R1 L2 R2 T : List Int) (a mid start fin b : Int) (ha : a = (P.length : Int)) (hst : start = a + L1.length) (hmid : mid = start + R1.length) (hfin : fin = mid + L2.length) (hb : b = fin + R2.length)
    (hL1 : L1.Pairwise lt) (hR1 : R1.Pairwise lt) (hL2 : L2.Pairwise lt) (hR2 : R2.Pairwise lt)
    (f1 : ∀ x ∈ L1, ∀ y ∈ L2, lt x y) (f2 : ∀ x ∈ L1, ∀ y ∈ R2, lt x y) (f3 : ∀ x ∈ R1, ∀ y ∈ L2, lt x y) (f4 : ∀ x ∈ R1, ∀ y ∈ R2, lt x y)
    (h1 : 0 < L1.length → 0 < R1.length → ∀ T', (P ++ L1 ++ R1 ++ T').length < 1000000 → slices_symMergeCmpFunc_int__split_ranked_1.Ok s lt P L1 R1 T' a start mid)
    (h2 : 0 < L2.length → 0 < R2.length → ∀ P', mid = (P'.length : Int) → (P' ++ L2 ++ R2 ++ T).length < 1000000 → slices_symMergeCmpFunc_int__split_ranked_1.Ok s lt P' L2 R2 T mid fin b)
    (hs : (P ++ L1 ++ R1 ++ L2 ++ R2 ++ T).length < 1000000) :
    ∃ M, M.Perm (L1 ++ R1 ++ (L2 ++ R2)) ∧ M.Pairwise lt ∧ Ev (fun k => slices_symMergeCmpFunc_int__split_ranked_1.j7 k (P ++ L1 ++ R1 ++ L2 ++ R2 ++ T) a b mid start fin s) (P ++ M ++ T) := by
  simp only [List.length_append] at hs
  obtain ⟨M1, m1, m2, m3, m4⟩ : ∃ M1 : List Int, M1.Perm (L1 ++ R1) ∧ M1.Pairwise lt ∧ (0 < L1.length → 0 < R1.length → Ev (fun k => slices_symMergeCmpFunc_int__split_ranked_1.f k (P ++ L1 ++ R1 ++ L2 ++ R2 ++ T) a start mid s) (P ++ M1 ++ L2 ++ R2 ++ T)) ∧ (¬ (0 < L1.length ∧ 0 < R1.length) → M1 = L1 ++ R1) := by
    by_cases c : 0 < L1.length ∧ 0 < R1.length
    · obtain ⟨M, q1, q2, q3⟩ := h1 c.1 c.2 (L2 ++ R2 ++ T) pbb7_1; exact ⟨M, q1, q2, fun _ _ => by simpa using q3, fun h => absurd c h⟩
    · refine ⟨L1 ++ R1, List.Perm.refl _, ?_, fun a b => absurd ⟨a, b⟩ c, fun _ => rfl⟩
      by_cases c1 : L1.length = 0
      · rw [List.eq_nil_of_length_eq_zero c1]; simpa using hR1
      · have c2 : R1.length = 0 := by omega
        rw [List.eq_nil_of_length_eq_zero c2]; simpa using hL1
  have hl1 : M1.length = L1.length + R1.length := by have := m1.length_eq; simpa using this
  obtain ⟨M2, n1, n2, n3, n4⟩ : ∃ M2 : List Int, M2.Perm (L2 ++ R2) ∧ M2.Pairwise lt ∧ (0 < L2.length → 0 < R2.length → Ev (fun k => slices_symMergeCmpFunc_int__split_ranked_1.f k (P ++ M1 ++ L2 ++ R2 ++ T) mid fin b s) (P ++ M1 ++ M2 ++ T)) ∧ (¬ (0 < L2.length ∧ 0 < R2.length) → M2 = L2 ++ R2) := by
    by_cases c : 0 < L2.length ∧ 0 < R2.length
    · obtain ⟨M, q1, q2, q3⟩ := h2 c.1 c.2 (P ++ M1) (by simp; omega) pbb7_1; exact ⟨M, q1, q2, fun _ _ => q3, fun h => absurd c h⟩
    · refine ⟨L2 ++ R2, List.Perm.refl _, ?_, fun a b => absurd ⟨a, b⟩ c, fun _ => rfl⟩
      by_cases c1 : L2.length = 0
      · rw [List.eq_nil_of_length_eq_zero c1]; simpa using hR2
      · have c2 : R2.length = 0 := by omega
        rw [List.eq_nil_of_length_eq_zero c2]; simpa using hL2
  refine ⟨M1 ++ M2, m1.append n1, List.pairwise_append.2 ⟨m2, n2, fun x hx y hy => ?_⟩, ?_⟩
  · rcases List.mem_append.1 (m1.mem_iff.1 hx) with hx | hx <;> rcases List.mem_append.1 (n1.mem_iff.1 hy) with hy | hy
    · exact f1 x hx y hy
    · exact f2 x hx y hy
    · exact f3 x hx y hy
    · exact f4 x hx y hy
  have key : Ev (fun k => if fin > mid then (if fin < b then ((slices_symMergeCmpFunc_int__split_ranked_1.f k (P ++ M1 ++ L2 ++ R2 ++ T) mid fin b s).bind fun t => some t) else some (P ++ M1 ++ L2 ++ R2 ++ T)) else some (P ++ M1 ++ L2 ++ R2 ++ T)) (P ++ (M1 ++ M2) ++ T) := by
    by_cases c1 : fin > mid
    · by_cases c2 : fin < b
      · simp only [if_pos c1, if_pos c2]; refine Ev.bind (n3 (by omega) (by omega)) ?_
        simpa using Ev.const _
      · simp only [if_pos c1, if_neg c2]; rw [n4 (by omega)]
        simpa using Ev.const _
    · simp only [if_neg c1]; rw [n4 (by omega)]
      simpa using Ev.const _
  have key2 : Ev (fun k => slices_symMergeCmpFunc_int__split_ranked_1.j8 k (P ++ L1 ++ R1 ++ L2 ++ R2 ++ T) a b mid start fin (decide (a < start ∧ start < mid)) s) (P ++ (M1 ++ M2) ++ T) := by
    refine Ev.succ ?_
    by_cases c : a < start ∧ start < mid
    · simp only [slices_symMergeCmpFunc_int__split_ranked_1.j8, decide_eq_true c, if_true]; refine Ev.bind (m3 (by omega) (by omega)) ?_; exact key
    · simp only [slices_symMergeCmpFunc_int__split_ranked_1.j8, decide_eq_false c, Bool.false_eq_true, if_false]; have e := m4 (by omega); rw [show P ++ L1 ++ R1 ++ L2 ++ R2 ++ T = P ++ M1 ++ L2 ++ R2 ++ T by rw [e]; simp]; exact key
  refine Ev.succ ?_
  by_cases c1 : a < start
  · simp only [slices_symMergeCmpFunc_int__split_ranked_1.j7, if_pos c1]
    simpa [c1] using key2
  · simp only [slices_symMergeCmpFunc_int__split_ranked_1.j7, if_neg c1]
    simpa [c1] using key2
theorem slices_symMergeCmpFunc_int__split_ranked_1.search (s : List Int) (lt : Int → Int → Prop) (o : Tot lt) (P L R T : List Int) (a m b mid n st r : Int) (ha : a = (P.length : Int)) (hm : m = a + L.length) (hb : b = m + R.length) (hL : L.Pairwise lt) (hR : R.Pairwise lt) (hc : ∀ x ∈ L, ∀ y ∈ R, Cm s lt x y) (hs : (P ++ L ++ R ++ T).length < 1000000)
    (hn : n = mid + m) (h0 : a ≤ st) (h1 : st ≤ r) (h2 : r ≤ m) (h3 : n - st ≤ b) (h4 : m ≤ n - r) :
    ∃ t, st ≤ t ∧ t ≤ r ∧ (∀ c, st ≤ c → c < t → lt (rd (P ++ L ++ R ++ T) c) (rd (P ++ L ++ R ++ T) (n - 1 - c))) ∧ (∀ c, t ≤ c → c < r → lt (rd (P ++ L ++ R ++ T) (n - 1 - c)) (rd (P ++ L ++ R ++ T) c)) ∧
      ∀ X, Ev (fun k => slices_symMergeCmpFunc_int__split_ranked_1.j6 k (P ++ L ++ R ++ T) a m b mid t (n - t) (decide (t < m ∧ m < n - t)) s) X → Ev (fun k => slices_symMergeCmpFunc_int__split_ranked_1.l4 k (P ++ L ++ R ++ T) a m b mid n st r (n - 1) s) X := by
  have hs' : P.length + L.length + R.length + T.length < 1000000 := by simp only [List.length_append] at hs; omega
  have hlen : ((P ++ L ++ R ++ T).length : Int) = P.length + L.length + R.length + T.length := by simp only [List.length_append]; omega
  have hmL : ∀ c, a ≤ c → c < m → rd (P ++ L ++ R ++ T) c ∈ L := fun c c0 c1 => by
    rw [show P ++ L ++ R ++ T = P ++ L ++ (R ++ T) by simp]; exact rd_mem P L _ c (by omega) (by omega)
  have hmR : ∀ c, m ≤ c → c < b → rd (P ++ L ++ R ++ T) c ∈ R := fun c c0 c1 => rd_mem (P ++ L) R T c pbb7_2 pbb7_2
  have hlL : ∀ c d, a ≤ c → c < d → d < m → lt (rd (P ++ L ++ R ++ T) c) (rd (P ++ L ++ R ++ T) d) := fun c d c0 c1 c2 => by
    rw [show P ++ L ++ R ++ T = P ++ L ++ (R ++ T) by simp]; exact rd_lt P L _ hL c d (by omega) c1 (by omega)
  have hlR : ∀ c d, m ≤ c → c < d → d < b → lt (rd (P ++ L ++ R ++ T) c) (rd (P ++ L ++ R ++ T) d) := fun c d c0 c1 c2 => rd_lt (P ++ L) R T hR c d pbb7_2 c1 pbb7_2
  obtain ⟨t, t1, t2, t3, t4, t5⟩ := bsearch (fun i j k => slices_symMergeCmpFunc_int__split_ranked_1.l4 k (P ++ L ++ R ++ T) a m b mid n i j (n - 1) s) (fun t k => slices_symMergeCmpFunc_int__split_ranked_1.j6 k (P ++ L ++ R ++ T) a m b mid t (n - t) (decide (t < m ∧ m < n - t)) s) (fun c => ¬ lt (rd (P ++ L ++ R ++ T) (n - 1 - c)) (rd (P ++ L ++ R ++ T) c)) st r
    (fun i j X i0 ij j0 q h => by
      refine Ev.succ ?_; have e := slices_symMergeCmpFunc_int__split_ranked_1.mid (i := i) (j := j) (by omega) (by omega) (by omega); have e2 : wrap64 ((i + j) / 2 + 1) = (i + j) / 2 + 1 := w64 (by omega) (by omega); have e3 : wrap64 (n - 1 - (i + j) / 2) = n - 1 - (i + j) / 2 := w64 (by omega) (by omega); obtain ⟨_, v, hv, hvl⟩ := hc _ (hmL ((i + j) / 2) (by omega) (by omega)) _ (hmR (n - 1 - (i + j) / 2) (by omega) (by omega)); have hv0 : ¬ v < 0 := fun k => q (hvl.1 k); have g1 : 0 ≤ (i + j) / 2 := by omega
      have g2 : (i + j) / 2 < ((P ++ L ++ R ++ T).length : Int) := by omega
      have g3 : 0 ≤ n - 1 - (i + j) / 2 := by omega
      have g4 : n - 1 - (i + j) / 2 < ((P ++ L ++ R ++ T).length : Int) := by omega
      simp only [slices_symMergeCmpFunc_int__split_ranked_1.l4, e, e2, e3, if_pos ij, if_pos g1, if_pos g2, if_pos g3, if_pos g4, hv, Option.bind_some, if_neg hv0]; exact h)
    (fun i j X i0 ij j0 q h => by
      refine Ev.succ ?_; have e := slices_symMergeCmpFunc_int__split_ranked_1.mid (i := i) (j := j) (by omega) (by omega) (by omega); have e3 : wrap64 (n - 1 - (i + j) / 2) = n - 1 - (i + j) / 2 := w64 (by omega) (by omega); obtain ⟨_, v, hv, hvl⟩ := hc _ (hmL ((i + j) / 2) (by omega) (by omega)) _ (hmR (n - 1 - (i + j) / 2) (by omega) (by omega)); have hv0 : v < 0 := hvl.2 (Classical.not_not.1 q); have g1 : 0 ≤ (i + j) / 2 := by omega
      have g2 : (i + j) / 2 < ((P ++ L ++ R ++ T).length : Int) := by omega
      have g3 : 0 ≤ n - 1 - (i + j) / 2 := by omega
      have g4 : n - 1 - (i + j) / 2 < ((P ++ L ++ R ++ T).length : Int) := by omega
      simp only [slices_symMergeCmpFunc_int__split_ranked_1.l4, e, e3, if_pos ij, if_pos g1, if_pos g2, if_pos g3, if_pos g4, hv, Option.bind_some, if_pos hv0]; exact h)
    (fun i X i0 j0 h => by
      refine Ev.succ ?_; have e3 : wrap64 (n - i) = n - i := w64 (by omega) (by omega)
      by_cases c : i < m
      · simp only [slices_symMergeCmpFunc_int__split_ranked_1.l4, if_neg (Int.lt_irrefl i), if_pos c, e3]
        simpa [c] using h
      · simp only [slices_symMergeCmpFunc_int__split_ranked_1.l4, if_neg (Int.lt_irrefl i), if_neg c, e3]
        simpa [c] using h)
    (fun c d c0 c1 c2 q k => q (o.trans _ _ _ (hlR (n - 1 - d) (n - 1 - c) (by omega) (by omega) (by omega)) (o.trans _ _ _ k (hlL c d (by omega) c1 (by omega))))) _ st r (Nat.le_refl _) h1 (Int.le_refl _) (Int.le_refl _) (fun c c0 c1 => by omega) (fun c c0 c1 => by omega)
  refine ⟨t, t1, t2, fun c c0 c1 => ?_, fun c c0 c1 => Classical.not_not.1 (t4 c c0 c1), t5⟩; exact (o.tot _ _ (hc _ (hmL c (by omega) (by omega)) _ (hmR (n - 1 - c) (by omega) (by omega))).1).resolve_right (t3 c c0 c1)
theorem slices_symMergeCmpFunc_int__split_ranked_1.merge (s : List Int) (lt : Int → Int → Prop) (o : Tot lt) : ∀ (N : Nat) (P L R T : List Int) (a m b : Int), L.length + R.length ≤ N → 0 < L.length → 0 < R.length → a = (P.length : Int) → m = a + L.length → b = m + R.length → L.Pairwise lt → R.Pairwise lt → (∀ x ∈ L, ∀ y ∈ R, Cm s lt x y) → (P ++ L ++ R ++ T).length < 1000000 → slices_symMergeCmpFunc_int__split_ranked_1.Ok s lt P L R T a m b
  | 0, P, L, R, T, a, m, b, hN, h0, h1, _, _, _, _, _, _, _ => by omega
  | N + 1, P, L, R, T, a, m, b, hN, h0, h1, ha, hm, hb, hL, hR, hc, hs => by
    have hs' : P.length + L.length + R.length + T.length < 1000000 := by simp only [List.length_append] at hs; omega
    have e1 : wrap64 (m - a) = m - a := w64 (by omega) (by omega); have e2 : wrap64 (b - m) = b - m := w64 (by omega) (by omega)
    by_cases c1 : m - a = 1
    · obtain ⟨u, rfl⟩ := List.length_eq_one_iff.1 (show L.length = 1 by omega); obtain ⟨M, q1, q2, q3⟩ := slices_symMergeCmpFunc_int__split_ranked_1.one_left s lt o P R T u a m b ha (by omega) hb hR (fun y hy => hc u (by simp) y hy) hs; refine ⟨M, q1, q2, Ev.succ ?_⟩; simp only [slices_symMergeCmpFunc_int__split_ranked_1.f, e1, if_pos c1]; exact q3
    by_cases c2 : b - m = 1
    · obtain ⟨u, rfl⟩ := List.length_eq_one_iff.1 (show R.length = 1 by omega); obtain ⟨M, q1, q2, q3⟩ := slices_symMergeCmpFunc_int__split_ranked_1.one_right s lt o P L T u a m b ha hm hL (fun x hx => hc x hx u (by simp)) hs; refine ⟨M, q1, q2, Ev.succ ?_⟩; simp only [slices_symMergeCmpFunc_int__split_ranked_1.f, e1, e2, if_neg c1, if_pos c2]; exact q3
    have em := slices_symMergeCmpFunc_int__split_ranked_1.mid (i := a) (j := b) (by omega) (by omega) (by omega); obtain ⟨mid, hmid⟩ : ∃ mid, mid = (a + b) / 2 := ⟨_, rfl⟩; rw [← hmid] at em; have e3 : wrap64 (mid + m) = mid + m := w64 (by omega) (by omega); have e4 : wrap64 (mid + m - b) = mid + m - b := w64 (by omega) (by omega); have e5 : wrap64 (mid + m - 1) = mid + m - 1 := w64 (by omega) (by omega)
    -- what follows the search, for any place that it finds
    have fol : ∀ t st r : Int, a ≤ st → st ≤ t → t ≤ r → r ≤ m → t ≤ mid → mid + m - t ≤ b → (∀ c, st ≤ c → c < t → lt (rd (P ++ L ++ R ++ T) c) (rd (P ++ L ++ R ++ T) (mid + m - 1 - c))) → (∀ c, t ≤ c → c < r → lt (rd (P ++ L ++ R ++ T) (mid + m - 1 - c)) (rd (P ++ L ++ R ++ T) c)) → (st = a ∨ mid + m - st = b) → (r = m ∨ r = mid) →
        ∃ M, M.Perm (L ++ R) ∧ M.Pairwise lt ∧ Ev (fun k => slices_symMergeCmpFunc_int__split_ranked_1.j6 k (P ++ L ++ R ++ T) a m b mid t (mid + m - t) (decide (t < m ∧ m < mid + m - t)) s) (P ++ M ++ T) := by
      intro t st r u0 u1 u2 u3 u4 u5 k1 k2 k3 k4
      have hmL : ∀ c d, a ≤ c → c < d → d < m → lt (rd (P ++ L ++ R ++ T) c) (rd (P ++ L ++ R ++ T) d) := fun c d c0 c1 c2 => by
        rw [show P ++ L ++ R ++ T = P ++ L ++ (R ++ T) by simp]; exact rd_lt P L _ hL c d (by omega) c1 (by omega)
      have hmR : ∀ c d, m ≤ c → c < d → d < b → lt (rd (P ++ L ++ R ++ T) c) (rd (P ++ L ++ R ++ T) d) := fun c d c0 c1 c2 => rd_lt (P ++ L) R T hR c d pbb7_2 c1 pbb7_2
      have A : ∀ c d, a ≤ c → c < t → mid + m - t ≤ d → d < b → lt (rd (P ++ L ++ R ++ T) c) (rd (P ++ L ++ R ++ T) d) := fun c d c0 c1 d0 d1 => by
        have z := k1 (t - 1) (by omega) (by omega); rw [show mid + m - 1 - (t - 1) = mid + m - t by omega] at z; have z1 : c = t - 1 ∨ c < t - 1 := by omega
        have z2 : d = mid + m - t ∨ mid + m - t < d := by omega
        rcases z1 with rfl | z1 <;> rcases z2 with rfl | z2
        · exact z
        · exact o.trans _ _ _ z (hmR _ _ (by omega) z2 d1)
        · exact o.trans _ _ _ (hmL _ _ c0 z1 (by omega)) z
        · exact o.trans _ _ _ (hmL _ _ c0 z1 (by omega)) (o.trans _ _ _ z (hmR _ _ (by omega) z2 d1))
      have B : ∀ c d, m ≤ c → c < mid + m - t → t ≤ d → d < m → lt (rd (P ++ L ++ R ++ T) c) (rd (P ++ L ++ R ++ T) d) := fun c d c0 c1 d0 d1 => by
        have z := k2 t (by omega) (by omega); have z1 : c = mid + m - 1 - t ∨ c < mid + m - 1 - t := by omega
        have z2 : d = t ∨ t < d := by omega
        rcases z1 with rfl | z1 <;> rcases z2 with rfl | z2
        · exact z
        · exact o.trans _ _ _ z (hmL _ _ (by omega) z2 d1)
        · exact o.trans _ _ _ (hmR _ _ c0 z1 (by omega)) z
        · exact o.trans _ _ _ (hmR _ _ c0 z1 (by omega)) (o.trans _ _ _ z (hmL _ _ (by omega) z2 d1))
      obtain ⟨L1, L2, rfl, l1, l2⟩ := split_at L (t - a).toNat (by omega); obtain ⟨R1, R2, rfl, l3, l4⟩ := split_at R (mid - t).toNat (by omega); simp only [List.length_append] at hm hb hN h0 h1 l2 l4 hs'; obtain ⟨p1, p2, p3⟩ := List.pairwise_append.1 hL; obtain ⟨p4, p5, p6⟩ := List.pairwise_append.1 hR
      have f2 : ∀ x ∈ L1, ∀ y ∈ R2, lt x y := fun x hx y hy => by
        obtain ⟨c, c0, c1, e⟩ := mem_rd P L1 (L2 ++ R1 ++ R2 ++ T) x hx; obtain ⟨d, d0, d1, e'⟩ := mem_rd (P ++ L1 ++ L2 ++ R1) R2 T y hy; simp only [List.length_append] at d0 d1; have z := A c d (by omega) (by omega) (by omega) (by omega); rw [show P ++ (L1 ++ L2) ++ (R1 ++ R2) ++ T = P ++ L1 ++ (L2 ++ R1 ++ R2 ++ T) by simp, e, show P ++ L1 ++ (L2 ++ R1 ++ R2 ++ T) = P ++ L1 ++ L2 ++ R1 ++ R2 ++ T by simp, e'] at z; exact z
      have f3 : ∀ x ∈ R1, ∀ y ∈ L2, lt x y := fun x hx y hy => by
        obtain ⟨c, c0, c1, e⟩ := mem_rd (P ++ L1 ++ L2) R1 (R2 ++ T) x hx; obtain ⟨d, d0, d1, e'⟩ := mem_rd (P ++ L1) L2 (R1 ++ R2 ++ T) y hy; simp only [List.length_append] at c0 c1 d0 d1; have z := B c d (by omega) (by omega) (by omega) (by omega); rw [show P ++ (L1 ++ L2) ++ (R1 ++ R2) ++ T = P ++ L1 ++ L2 ++ R1 ++ (R2 ++ T) by simp, e, show P ++ L1 ++ L2 ++ R1 ++ (R2 ++ T) = P ++ L1 ++ L2 ++ (R1 ++ R2 ++ T) by simp, e'] at z; exact z
      obtain ⟨M, q1, q2, q3⟩ := slices_symMergeCmpFunc_int__split_ranked_1.tail s lt P L1 R1 L2 R2 T a mid t (mid + m - t) b ha (by omega) (by omega) (by omega) (by omega) p1 p4 p2 p5 p3 f2 f3 p6
        (fun v0 v1 T' hT => slices_symMergeCmpFunc_int__split_ranked_1.merge s lt o N P L1 R1 T' a t mid (by omega) v0 v1 ha (by omega) (by omega) p1 p4 (fun x hx y hy => hc x (by simp [hx]) y (by simp [hy])) hT)
        (fun v0 v1 P' hP' hT => slices_symMergeCmpFunc_int__split_ranked_1.merge s lt o N P' L2 R2 T mid (mid + m - t) b (by omega) v0 v1 hP' (by omega) (by omega) p2 p5 (fun x hx y hy => hc x (by simp [hx]) y (by simp [hy])) hT)
        pbb7_1
      refine ⟨M, q1.trans ?_, q2, Ev.succ ?_⟩
      · simp only [List.append_assoc]; refine List.Perm.append_left L1 ?_; rw [← List.append_assoc, ← List.append_assoc]; exact List.Perm.append_right R2 List.perm_append_comm
      · by_cases c : t < m ∧ m < mid + m - t
        · simp only [slices_symMergeCmpFunc_int__split_ranked_1.j6, decide_eq_true c, if_true]; have z := slices_rotateCmpFunc_int__split_ranked_1.f_rot s (P ++ L1) L2 R1 (R2 ++ T) t m (mid + m - t) (by omega) (by omega) pbb7_1 pbb7_1 pbb7_1 pbb7_1; refine Ev.bind (a := P ++ L1 ++ R1 ++ L2 ++ R2 ++ T) ?_ q3
          simpa using z
        · simp only [slices_symMergeCmpFunc_int__split_ranked_1.j6, decide_eq_false c, Bool.false_eq_true, if_false]
          have z : L2 ++ R1 = R1 ++ L2 := by
            by_cases d : L2.length = 0
            · rw [List.eq_nil_of_length_eq_zero d]; simp
            · rw [List.eq_nil_of_length_eq_zero (show R1.length = 0 by omega)]; simp
          rw [show P ++ (L1 ++ L2) ++ (R1 ++ R2) ++ T = P ++ L1 ++ (L2 ++ R1) ++ R2 ++ T by simp, z]
          simpa using q3
    by_cases c3 : m > mid
    · obtain ⟨t, t1, t2, t3, t4, t5⟩ := slices_symMergeCmpFunc_int__split_ranked_1.search s lt o P L R T a m b mid (mid + m) (mid + m - b) mid ha hm hb hL hR hc hs rfl (by omega) (by omega) (by omega) (by omega) (by omega); obtain ⟨M, q1, q2, q3⟩ := fol t (mid + m - b) mid (by omega) t1 t2 (by omega) (by omega) (by omega) t3 t4 (by omega) (by omega); refine ⟨M, q1, q2, Ev.succ ?_⟩; simp only [slices_symMergeCmpFunc_int__split_ranked_1.f, e1, e2, em, e3, e4, if_neg c1, if_neg c2, if_pos c3]; refine Ev.succ ?_; simp only [slices_symMergeCmpFunc_int__split_ranked_1.j4, e5]; exact t5 _ q3
    · obtain ⟨t, t1, t2, t3, t4, t5⟩ := slices_symMergeCmpFunc_int__split_ranked_1.search s lt o P L R T a m b mid (mid + m) a m ha hm hb hL hR hc hs rfl (by omega) (by omega) (by omega) (by omega) (by omega); obtain ⟨M, q1, q2, q3⟩ := fol t a m (by omega) t1 t2 (by omega) (by omega) (by omega) t3 t4 (by omega) (by omega); refine ⟨M, q1, q2, Ev.succ ?_⟩; simp only [slices_symMergeCmpFunc_int__split_ranked_1.f, e1, e2, em, e3, e4, if_neg c1, if_neg c2, if_neg c3]; refine Ev.succ ?_; simp only [slices_symMergeCmpFunc_int__split_ranked_1.j4, e5]; exact t5 _ q3
inductive slices_stableCmpFunc_int__split_ranked_1.Ch (lt : Int → Int → Prop) (bs : Nat) : List Int → List Int → Prop
  | last (x0 x : List Int) : x.length ≤ bs → x.Perm x0 → x.Pairwise lt → slices_stableCmpFunc_int__split_ranked_1.Ch lt bs x0 x
  | cons (b0 b y0 y : List Int) : b.length = bs → b.Perm b0 → b.Pairwise lt → slices_stableCmpFunc_int__split_ranked_1.Ch lt bs y0 y → slices_stableCmpFunc_int__split_ranked_1.Ch lt bs (b0 ++ y0) (b ++ y)
theorem slices_stableCmpFunc_int__split_ranked_1.Ch.perm {lt : Int → Int → Prop} {bs : Nat} {x0 x : List Int} (h : slices_stableCmpFunc_int__split_ranked_1.Ch lt bs x0 x) : x.Perm x0 := by
  induction h with
  | last _ _ _ p _ => exact p
  | cons _ _ _ _ _ p _ _ ih => exact p.append ih
theorem slices_stableCmpFunc_int__split_ranked_1.Ch.small {lt : Int → Int → Prop} {bs : Nat} {x0 x : List Int} (h : slices_stableCmpFunc_int__split_ranked_1.Ch lt bs x0 x) (hb : 0 < bs) (hx : x.length ≤ bs) : x.Pairwise lt := by
  cases h with
  | last _ _ _ _ q => exact q
  | cons b0 b y0 y l p q c =>
    have : y.length = 0 := by rw [List.length_append] at hx; omega
    rw [List.eq_nil_of_length_eq_zero this]
    simpa using q
theorem slices_stableCmpFunc_int__split_ranked_1.ins (s : List Int) (lt : Int → Int → Prop) (o : Tot lt) (bs : Nat) (hbs : 0 < bs) (hbs' : bs < 1000000) : ∀ (N : Nat) (P Y : List Int) (a n : Int), Y.length ≤ N → a = (P.length : Int) → n = a + Y.length → Y.Pairwise (Cm s lt) → (P ++ Y).length < 1000000 →
    ∃ Y', slices_stableCmpFunc_int__split_ranked_1.Ch lt bs Y Y' ∧ ∀ r, Ev (fun k => slices_stableCmpFunc_int__split_ranked_1.l1 k (P ++ Y') n bs s) r → Ev (fun k => slices_stableCmpFunc_int__split_ranked_1.l0 k (P ++ Y) n bs a (a + bs) s) r
  | N, P, Y, a, n, hN, ha, hn, hY, hs => by
    have hs' : P.length + Y.length < 1000000 := by simpa using hs
    by_cases c : a + bs ≤ n
    · obtain ⟨N, rfl⟩ : ∃ M, N = M + 1 := ⟨N - 1, by omega⟩; obtain ⟨Y1, Y2, rfl, l1, l2⟩ := split_at Y bs (by omega); simp only [List.length_append] at hn hN hs'; obtain ⟨p1, p2, p3⟩ := List.pairwise_append.1 hY; obtain ⟨M, q1, q2, q3⟩ := slices_insertionSortCmpFunc_int__split_ranked_1.f_sort s lt o a (a + bs) P Y1 Y2 ha (by omega) p1 pbb7_1; have hM : M.length = bs := by rw [q1.length_eq]; exact l1
      obtain ⟨Y', r1, r2⟩ := slices_stableCmpFunc_int__split_ranked_1.ins s lt o bs hbs hbs' N (P ++ M) Y2 (a + bs) n (by omega) pbb7_2 (by omega) p2 pbb7_1; refine ⟨M ++ Y', .cons _ _ _ _ hM q1 q2 r1, fun r h => Ev.succ ?_⟩; have e1 : wrap64 (a + bs + bs) = a + bs + bs := w64 (by omega) (by omega); simp only [slices_stableCmpFunc_int__split_ranked_1.l0, if_pos c, e1]; refine Ev.bind (a := P ++ M ++ Y2) (by simpa using q3) ?_; exact r2 r (by simpa using h)
    · obtain ⟨M, q1, q2, q3⟩ := slices_insertionSortCmpFunc_int__split_ranked_1.f_sort s lt o a n P Y [] ha hn hY (by simpa using hs); have hM : M.length = Y.length := q1.length_eq; refine ⟨M, .last _ _ (by omega) q1 q2, fun r h => Ev.succ ?_⟩; simp only [slices_stableCmpFunc_int__split_ranked_1.l0, if_neg c]; refine Ev.bind (a := P ++ M) (by simpa using q3) h
theorem slices_stableCmpFunc_int__split_ranked_1.mrg (s : List Int) (lt : Int → Int → Prop) (o : Tot lt) (bs : Nat) (hbs : 0 < bs) (hbs' : bs < 1000000) : ∀ (N : Nat) (P Y0 Y : List Int) (a n : Int), Y.length ≤ N → slices_stableCmpFunc_int__split_ranked_1.Ch lt bs Y0 Y → a = (P.length : Int) → n = a + Y.length → Y0.Pairwise (Cm s lt) → (P ++ Y).length < 1000000 →
    ∃ Y', slices_stableCmpFunc_int__split_ranked_1.Ch lt (2 * bs) Y0 Y' ∧ ∀ r, Ev (fun k => slices_stableCmpFunc_int__split_ranked_1.l1 k (P ++ Y') n ((2 * bs : Nat) : Int) s) r → Ev (fun k => slices_stableCmpFunc_int__split_ranked_1.l2 k (P ++ Y) n bs a (a + 2 * bs) s) r := by
  intro N
  induction N with
  | zero =>
    intro P Y0 Y a n hN hC ha hn hY hs; obtain rfl : Y = [] := List.eq_nil_of_length_eq_zero (by omega); refine ⟨[], .last _ _ (by simp) hC.perm List.Pairwise.nil, fun r h => Ev.succ ?_⟩; have g : ¬ a + 2 * bs ≤ n := by simp at hn; omega
    have e1 : wrap64 (a + bs) = a + bs := w64 (by simp at hs; omega) (by simp at hs; omega); have g2 : ¬ a + bs < n := by simp at hn; omega
    have e2 : wrap64 ((bs : Int) * 2) = ((2 * bs : Nat) : Int) := by rw [w64 (by omega) (by omega)]; omega
    simp only [slices_stableCmpFunc_int__split_ranked_1.l2, if_neg g, e1, if_neg g2, e2]; exact h
  | succ N ih =>
    intro P Y0 Y a n hN hC ha hn hY hs; have hs' : P.length + Y.length < 1000000 := by simpa using hs
    have e1 : wrap64 (a + bs) = a + bs := w64 (by omega) (by omega); have e2 : wrap64 ((bs : Int) * 2) = ((2 * bs : Nat) : Int) := by rw [w64 (by omega) (by omega)]; omega
    have e3 : wrap64 (2 * (bs : Int)) = 2 * bs := w64 (by omega) (by omega); have e4 : wrap64 (a + 2 * bs + 2 * bs) = a + 2 * bs + 2 * bs := w64 (by omega) (by omega)
    cases hC with
    | last _ _ hl hp hq =>
      refine ⟨Y, .last _ _ (by omega) hp hq, fun r h => Ev.succ ?_⟩; have g : ¬ a + 2 * bs ≤ n := by omega
      have g2 : ¬ a + bs < n := by omega
      simp only [slices_stableCmpFunc_int__split_ranked_1.l2, if_neg g, e1, if_neg g2, e2]; exact h
    | cons b0 b1 y0 y hl hp hq hC' =>
      rw [List.length_append] at hn hN hs'; obtain ⟨p1, p2, p3⟩ := List.pairwise_append.1 hY
      cases hC' with
      | last _ _ hl2 hp2 hq2 =>
        by_cases c0 : y.length = 0
        · obtain rfl : y = [] := List.eq_nil_of_length_eq_zero c0; refine ⟨b1 ++ [], .last _ _ (by simp; omega) (hp.append hp2) (by simpa using hq), fun r h => Ev.succ ?_⟩; have g : ¬ a + 2 * bs ≤ n := by simp at hn; omega
          have g2 : ¬ a + bs < n := by simp at hn; omega
          simp only [slices_stableCmpFunc_int__split_ranked_1.l2, if_neg g, e1, if_neg g2, e2]; exact h
        · obtain ⟨M, q1, q2, q3⟩ := slices_symMergeCmpFunc_int__split_ranked_1.merge s lt o (b1.length + y.length) P b1 y [] a (a + bs) n (Nat.le_refl _) (by omega) (by omega) ha (by omega) (by omega) hq hq2 (fun x hx z hz => p3 x (hp.mem_iff.1 hx) z (hp2.mem_iff.1 hz)) (by simp only [List.length_append, List.length_nil]; omega); have hM : M.length = b1.length + y.length := by rw [q1.length_eq, List.length_append]
          simp only [List.append_nil] at q3; refine ⟨M, .last _ _ (by omega) (q1.trans (hp.append hp2)) q2, fun r h => Ev.succ ?_⟩
          by_cases c1 : y.length = bs
          · have g : a + 2 * bs ≤ n := by omega
            have en : n = a + 2 * bs := by omega
            simp only [slices_stableCmpFunc_int__split_ranked_1.l2, if_pos g, e1, e3, e4]; refine Ev.bind (a := P ++ M) ?_ (Ev.succ ?_)
            · rw [← en]; simpa using q3
            · have g3 : ¬ a + 2 * bs + 2 * bs ≤ n := by omega
              have e5 : wrap64 (a + 2 * bs + bs) = a + 2 * bs + bs := w64 (by omega) (by omega); have g4 : ¬ a + 2 * bs + bs < n := by omega
              simp only [slices_stableCmpFunc_int__split_ranked_1.l2, if_neg g3, e5, if_neg g4, e2]; exact h
          · have g : ¬ a + 2 * bs ≤ n := by omega
            have g2 : a + bs < n := by omega
            simp only [slices_stableCmpFunc_int__split_ranked_1.l2, if_neg g, e1, if_pos g2, e2]; exact Ev.bind (a := P ++ M) (by simpa using q3) h
      | cons b0' b2 z0 z hl2 hp2 hq2 hC2 =>
        rw [List.length_append] at hn hN hs'; obtain ⟨p4, p5, p6⟩ := List.pairwise_append.1 p2; obtain ⟨M, q1, q2, q3⟩ := slices_symMergeCmpFunc_int__split_ranked_1.merge s lt o (b1.length + b2.length) P b1 b2 z a (a + bs) (a + 2 * bs) (Nat.le_refl _) (by omega) (by omega) ha (by omega) (by omega) hq hq2 (fun x hx w hw => p3 x (hp.mem_iff.1 hx) w (List.mem_append_left _ (hp2.mem_iff.1 hw))) pbb7_1; have hM : M.length = 2 * bs := by rw [q1.length_eq, List.length_append]; omega
        obtain ⟨Y', r1, r2⟩ := ih (P ++ M) z0 z (a + 2 * bs) n (by omega) hC2 pbb7_2 (by omega) p5 pbb7_1; refine ⟨M ++ Y', ?_, fun r h => Ev.succ ?_⟩
        · rw [← List.append_assoc]; exact .cons _ _ _ _ hM (q1.trans (hp.append hp2)) q2 r1
        · have g : a + 2 * bs ≤ n := by omega
          simp only [slices_stableCmpFunc_int__split_ranked_1.l2, if_pos g, e1, e3, e4]; refine Ev.bind (a := P ++ M ++ z) (by simpa using q3) ?_; exact r2 r (by simpa using h)
theorem slices_stableCmpFunc_int__split_ranked_1.all (s : List Int) (lt : Int → Int → Prop) (o : Tot lt) (X0 : List Int) (hX : X0.Pairwise (Cm s lt)) : ∀ (N bs : Nat) (X : List Int) (n : Int), n.toNat - bs ≤ N → 0 < bs → bs < 1000000 → slices_stableCmpFunc_int__split_ranked_1.Ch lt bs X0 X → n = X.length → X.length < 400000 →
    ∃ Z, Z.Perm X0 ∧ Z.Pairwise lt ∧ Ev (fun k => slices_stableCmpFunc_int__split_ranked_1.l1 k X n bs s) Z
  | N, bs, X, n, hN, hb, hb', hC, hn, hs => by
    by_cases c : (bs : Int) < n
    · obtain ⟨N, rfl⟩ : ∃ M, N = M + 1 := ⟨N - 1, by omega⟩; obtain ⟨Y', r1, r2⟩ := slices_stableCmpFunc_int__split_ranked_1.mrg s lt o bs hb hb' X.length [] X0 X 0 n (Nat.le_refl _) hC rfl (by omega) hX (by simp; omega); have hl : Y'.length = X.length := by rw [r1.perm.length_eq, hC.perm.length_eq]
      obtain ⟨Z, z1, z2, z3⟩ := slices_stableCmpFunc_int__split_ranked_1.all s lt o X0 hX N (2 * bs) Y' n (by omega) (by omega) (by omega) r1 (by omega) (by omega); refine ⟨Z, z1, z2, Ev.succ ?_⟩; have e3 : wrap64 (2 * (bs : Int)) = 2 * bs := w64 (by omega) (by omega); simp only [slices_stableCmpFunc_int__split_ranked_1.l1, if_pos c, e3]; have z := r2 Z (by simpa using z3)
      simpa using z
    · refine ⟨X, hC.perm, hC.small hb (by omega), Ev.succ ?_⟩; simp only [slices_stableCmpFunc_int__split_ranked_1.l1, if_neg c]; exact Ev.const _
theorem slices_stableCmpFunc_int__split_ranked_1.f_sort (s : List Int) (lt : Int → Int → Prop) (o : Tot lt) (X : List Int) (hX : X.Pairwise (Cm s lt)) (n : Int) (hn : n = X.length) (hs : X.length < 400000) :
    ∃ Z, Z.Perm X ∧ Z.Pairwise lt ∧ Ev (fun k => slices_stableCmpFunc_int__split_ranked_1.f k X n s) Z := by
  obtain ⟨Y', r1, r2⟩ := slices_stableCmpFunc_int__split_ranked_1.ins s lt o 20 (by omega) (by omega) X.length [] X 0 n (Nat.le_refl _) rfl (by omega) hX (by simp; omega); have hl : Y'.length = X.length := r1.perm.length_eq; obtain ⟨Z, z1, z2, z3⟩ := slices_stableCmpFunc_int__split_ranked_1.all s lt o X hX _ 20 Y' n (Nat.le_refl _) (by omega) (by omega) r1 (by omega) (by omega); refine ⟨Z, z1, z2, ?_⟩; have := r2 Z (by simpa using z3)
  simpa [slices_stableCmpFunc_int__split_ranked_1.f] using this
end Go.Proofs.Ytadognlkefhoiaa.M
end
section
namespace Go.Proofs.Ytadognlkefhoiaa.M
open Go.RowKit Go.Proofs.YtadognlkefhoiaaW.PrintWords Go.Proofs.YtadognlkefhoiaaW.PrintLast Go.Proofs.YtadognlkefhoiaaW.PrintMore
attribute [local go_sem] max2_int min2_int max_two min_two max_three min_three max_four min_four
set_option linter.unusedVariables false
set_option linter.unusedSimpArgs false
def split_total_1.f (a0 : Int) : Option (Bool) := some (decide (a0 < 0))
set_option maxHeartbeats 8000000 in
set_option maxRecDepth 100000 in
theorem split_total_1.calls (a0 : Int) (r : Bool) (w : World) (h : split_total_1.f a0 = some r) :
    Calls Try.prog 55 #[.int .i64 a0] w fun e w' => e = .returned (.bool r) ∧ Drawn0 w w' := by
 have H : (some (decide (a0 < 0))) = some r := h; clear h; obtain rfl := Option.some.inj H; go_enter Try.func55, Try.ntmps55
 go_wp2
 go_ret
 exact ⟨pbb2_0, pbb2_1⟩
def slices_IndexFunc_int_int__split_total_1.l0 : Nat → List Int → Int → Int → Option (Int)
  | 0, _, _, _ => none
  | k + 1, x0, x7, x8 => if x8 < x7 then (if 0 ≤ x8 then (if x8 < (x0.length : Int) then ((split_total_1.f (rd x0 x8)).bind fun t102 => (if t102 = true then (some x8) else (slices_IndexFunc_int_int__split_total_1.l0 k x0 x7 (wrap64 (x8 + 1))))) else (none)) else (none)) else (some (-1))
def slices_IndexFunc_int_int__split_total_1.f (k : Nat) (l0 : List Int)  : Option (Int) := slices_IndexFunc_int_int__split_total_1.l0 k l0 (l0.length : Int) 0
theorem slices_IndexFunc_int_int__split_total_1.mono_l : ∀ k, (∀ y0 y1 y2, LeO (slices_IndexFunc_int_int__split_total_1.l0 k y0 y1 y2) (slices_IndexFunc_int_int__split_total_1.l0 (k + 1) y0 y1 y2))
  | 0 => fun _ _ _ r h => by simp [slices_IndexFunc_int_int__split_total_1.l0] at h
  | k + 1 => by
    have ih0 := slices_IndexFunc_int_int__split_total_1.mono_l k
    · intro y0 y1 y2
      unfold slices_IndexFunc_int_int__split_total_1.l0
      repeat' first
      | (with_reducible exact ih0 _ _ _)
      | (with_reducible exact LeO.refl _)
      | (with_reducible exact LeO.none _)
      | (with_reducible refine LeO.ite ?_ ?_)
      | (with_reducible refine LeO.bind ?_ (fun _ => ?_))
      | exact ih0 _ _ _
      | exact LeO.none _
      | refine LeO.ite ?_ ?_
      | refine LeO.bind ?_ (fun _ => ?_)
theorem slices_IndexFunc_int_int__split_total_1.mono : ∀ a0 k, LeO (slices_IndexFunc_int_int__split_total_1.f k a0) (slices_IndexFunc_int_int__split_total_1.f (k + 1) a0) := by
 intro a0 k; have ih0 := slices_IndexFunc_int_int__split_total_1.mono_l k
 unfold slices_IndexFunc_int_int__split_total_1.f
 repeat' first
   | (with_reducible exact ih0 _ _ _)
   | (with_reducible exact LeO.refl _)
   | (with_reducible exact LeO.none _)
   | (with_reducible refine LeO.ite ?_ ?_)
   | (with_reducible refine LeO.bind ?_ (fun _ => ?_))
   | exact ih0 _ _ _
   | exact LeO.none _
   | refine LeO.ite ?_ ?_
   | refine LeO.bind ?_ (fun _ => ?_)
set_option maxHeartbeats 8000000 in
set_option maxRecDepth 100000 in
theorem slices_IndexFunc_int_int__split_total_1.calls (k : Nat) (A0 : Option Addr) (c0 : Nat) (l0 : List Int)  (r : Int) (w : World) (hr0 : Kd.C (Kd.int .i64) w A0 l0.length l0) (hc0 : l0.length ≤ c0) (h : slices_IndexFunc_int_int__split_total_1.f k l0 = some r) :
    Calls Try.prog 58 #[.slice A0 l0.length c0, .func (.func 55) #[] #[]] w fun e w' => e = .returned (.int .i64 r) ∧ Below w.heap.size w w' := by
 have hu3 := Try.underlying3; have HR0 := Aside0.mk hr0; have HC0 := Aside0.mk hc0; clear hr0 hc0; have HB := Aside0.mk (Below.refl w.heap.size w); have H : (slices_IndexFunc_int_int__split_total_1.l0 k l0 (l0.length : Int) 0) = some r := h; clear h; have H' := Aside0.mk H; clear H; go_enter Try.func58, Try.ntmps58
 go_wp2
 go_loopg [8] k (fun kq v8 w' => ∃ (x8_1 : Int), v8 = .int .i64 x8_1 ∧ Aside0 (slices_IndexFunc_int_int__split_total_1.l0 kq l0 (l0.length : Int) x8_1 = some r) ∧ Aside0 (kq ≤ k) ∧ Aside0 (Below w.heap.size w w'))
 case atStart => exact ⟨(0), pbb2_0, H', ⟨Nat.le_refl _⟩, ⟨pbb2_2⟩⟩
 case round =>
  clear H'; (try clear p2); obtain ⟨x8_1, rfl, HA, HK1, HB⟩ := hrel
  cases gk with
  | zero => exact absurd HA.out (by simp [slices_IndexFunc_int_int__split_total_1.l0])
  | succ k1 =>
   have H := HA.out; clear HA; simp only [slices_IndexFunc_int_int__split_total_1.l0] at H
   by_cases c3 : x8_1 < (l0.length : Int)
   ·rw [if_pos c3] at H; have c3b0 : decide (x8_1 < (l0.length : Int)) = true := decide_eq_true c3; clear c3
    by_cases c4 : 0 ≤ x8_1
    ·rw [if_pos c4] at H; have c4b0 : decide (0 ≤ x8_1) = true := decide_eq_true c4; clear c4
     by_cases c5 : x8_1 < (l0.length : Int)
     ·rw [if_pos c5] at H; have c5b0 : decide (x8_1 < (l0.length : Int)) = true := decide_eq_true c5; clear c5; replace H := Option.bind_eq_some_iff.mp H; obtain ⟨t102, A60, H⟩ := H; replace H : (if t102 = true then (some x8_1) else (slices_IndexFunc_int_int__split_total_1.l0 k1 l0 (l0.length : Int) (wrap64 (x8_1 + 1)))) = some r := H; have A6 := Aside0.mk A60; clear A60
      by_cases c7 : t102 = true
      ·subst c7; have H1 : (some x8_1) = some r := by rw [if_pos rfl] at H; exact H
       clear H; have H := H1; clear H1; obtain rfl := Option.some.inj H; have p101 : 0 ≤ (x8_1 : Int) := of_decide_eq_true pbb4_0; have q101 : x8_1 < (l0.length : Int) := of_decide_eq_true pbb4_0; obtain ⟨ad101, e101, hx101_0⟩ := Kd.at_int HR0.out x8_1 p101 q101
       cases e101
       replace hx101_0 := (HB.out.cell (World.block_lt_of_cell? w _ hx101_0)).trans hx101_0; replace p101 := eq_true p101; replace q101 := eq_true q101
       go_wp2_with (first | (go_at_call 55; (with_reducible refine (split_total_1.calls (rd l0 x8_1) true _ A6.out).mono ?_); rintro e w' ⟨rfl, ⟨nd, rfl⟩⟩))
       go_ret
       exact ⟨pbb2_6, pbb2_2⟩
      ·replace c7 := Bool.eq_false_iff.mpr c7; subst c7; have H1 : (slices_IndexFunc_int_int__split_total_1.l0 k1 l0 (l0.length : Int) (wrap64 (x8_1 + 1))) = some r := by rw [if_neg (show ¬ (false = true) by decide)] at H; exact H
       clear H; have H := H1; clear H1; have H' := Aside0.mk H; clear H; have p101 : 0 ≤ (x8_1 : Int) := of_decide_eq_true pbb4_0; have q101 : x8_1 < (l0.length : Int) := of_decide_eq_true pbb4_0; obtain ⟨ad101, e101, hx101_0⟩ := Kd.at_int HR0.out x8_1 p101 q101
       cases e101
       replace hx101_0 := (HB.out.cell (World.block_lt_of_cell? w _ hx101_0)).trans hx101_0; replace p101 := eq_true p101; replace q101 := eq_true q101
       go_wp2_with (first | (go_at_call 55; (with_reducible refine (split_total_1.calls (rd l0 x8_1) false _ A6.out).mono ?_); rintro e w' ⟨rfl, ⟨nd, rfl⟩⟩))
       go_roundg k1
       case measure => have := HK1.out; omega
       case rel => exact ⟨(wrap64 (x8_1 + 1)), pbb2_0, H', ⟨by have := HK1.out; omega⟩, ⟨pbb2_2⟩⟩
     ·rw [if_neg c5] at H; exact absurd H (by simp)
    ·rw [if_neg c4] at H; exact absurd H (by simp)
   ·rw [if_neg c3] at H; have c3b0 : decide (x8_1 < (l0.length : Int)) = false := decide_eq_false c3; clear c3; obtain rfl := Option.some.inj H
    go_wp2
    go_ret
    exact ⟨pbb2_6, pbb2_2⟩
def slices_ContainsFunc_int_int__split_total_1.f (k : Nat) (l0 : List Int)  : Option (Bool) := (slices_IndexFunc_int_int__split_total_1.f k l0).bind fun t103 => (some (decide (t103 ≥ 0)))
theorem slices_ContainsFunc_int_int__split_total_1.mono : ∀ a0 k, LeO (slices_ContainsFunc_int_int__split_total_1.f k a0) (slices_ContainsFunc_int_int__split_total_1.f (k + 1) a0) := by
 intro a0 k
 unfold slices_ContainsFunc_int_int__split_total_1.f
 repeat' first
   | (with_reducible exact slices_IndexFunc_int_int__split_total_1.mono _ _)
   | (with_reducible exact LeO.refl _)
   | (with_reducible exact LeO.none _)
   | (with_reducible refine LeO.ite ?_ ?_)
   | (with_reducible refine LeO.bind ?_ (fun _ => ?_))
   | exact slices_IndexFunc_int_int__split_total_1.mono _ _
   | exact LeO.none _
   | refine LeO.ite ?_ ?_
   | refine LeO.bind ?_ (fun _ => ?_)
set_option maxHeartbeats 8000000 in
set_option maxRecDepth 100000 in
theorem slices_ContainsFunc_int_int__split_total_1.calls (k : Nat) (A0 : Option Addr) (c0 : Nat) (l0 : List Int)  (r : Bool) (w : World) (hr0 : Kd.C (Kd.int .i64) w A0 l0.length l0) (hc0 : l0.length ≤ c0) (h : slices_ContainsFunc_int_int__split_total_1.f k l0 = some r) :
    Calls Try.prog 54 #[.slice A0 l0.length c0, .func (.func 55) #[] #[]] w fun e w' => e = .returned (.bool r) ∧ Below w.heap.size w w' := by
 have HR0 := Aside0.mk hr0; have HC0 := Aside0.mk hc0; clear hr0 hc0; have HB := Aside0.mk (Below.refl w.heap.size w); have H : ((slices_IndexFunc_int_int__split_total_1.f k l0).bind fun t103 => (some (decide (t103 ≥ 0)))) = some r := h; clear h; replace H := Option.bind_eq_some_iff.mp H; obtain ⟨t103, A30, H⟩ := H; replace H : (some (decide (t103 ≥ 0))) = some r := H; have A3 := Aside0.mk A30; clear A30; obtain rfl := Option.some.inj H; go_enter Try.func54, Try.ntmps54
 go_wp2_with (first | ((with_reducible refine gate_callee (f := 58) rfl ?_); refine goesL_ (some 7) rfl rfl Try.func58 (by kernel_rfl) rfl #[.slice A0 l0.length c0, .func (.func 55) #[] #[]] rfl pbb3_0 ?_; (with_reducible refine (slices_IndexFunc_int_int__split_total_1.calls k _ _ l0  t103 _ ?side1 ?side2 A3.out).mono ?_); (case side1 => repeat (first | exact HR0.out | (with_reducible refine Kd.C_alloc ?_ _) | (with_reducible refine Kd.C_drewN ?_ _) | (with_reducible refine Kd.C_drew ?_))); (case side2 => exact HC0.out); rintro e w4 ⟨rfl, hb⟩; refine ⟨_, rfl, ?_⟩; have n0_ := Aside0.mk (below_step pbb2_2 hb); clear HB; have HB := n0_; clear n0_; (try clear hb); (try clear hb2); (try clear hk); (try clear hi)))
 go_ret
 exact ⟨pbb2_6, pbb2_2⟩
def split_total.l0 : Nat → Int → List Int → Int → Int → Option (Int × Int)
  | 0, _, _, _, _ => none
  | k + 1, x2, x8, x9, x10 => if x10 < x9 then (if 0 ≤ x10 then (if x10 < (x8.length : Int) then (if (rd x8 x10) > (wrap64 (1000000000000000 - x2)) then (some (0, 4)) else (split_total.l0 k (wrap64 (x2 + (rd x8 x10))) x8 x9 (wrap64 (x10 + 1)))) else (none)) else (none)) else (if x2 = 0 then (some (0, 2)) else (some (x2, 0)))
def split_total.f (k : Nat) (l0 : List Int) : Option (Int × Int) := (slices_ContainsFunc_int_int__split_total_1.f k l0).bind fun t104 => (if t104 = true then (some (0, 2)) else (split_total.l0 k 0 l0 (l0.length : Int) 0))
theorem split_total.mono_l : ∀ k, (∀ y0 y1 y2 y3, LeO (split_total.l0 k y0 y1 y2 y3) (split_total.l0 (k + 1) y0 y1 y2 y3))
  | 0 => fun _ _ _ _ r h => by simp [split_total.l0] at h
  | k + 1 => by
    have ih0 := split_total.mono_l k
    · intro y0 y1 y2 y3
      unfold split_total.l0
      repeat' first
      | (with_reducible exact ih0 _ _ _ _)
      | (with_reducible exact slices_ContainsFunc_int_int__split_total_1.mono _ _)
      | (with_reducible exact LeO.refl _)
      | (with_reducible exact LeO.none _)
      | (with_reducible refine LeO.ite ?_ ?_)
      | (with_reducible refine LeO.bind ?_ (fun _ => ?_))
      | exact ih0 _ _ _ _
      | exact slices_ContainsFunc_int_int__split_total_1.mono _ _
      | exact LeO.none _
      | refine LeO.ite ?_ ?_
      | refine LeO.bind ?_ (fun _ => ?_)
theorem split_total.mono : ∀ a0 k, LeO (split_total.f k a0) (split_total.f (k + 1) a0) := by
 intro a0 k; have ih0 := split_total.mono_l k
 unfold split_total.f
 repeat' first
   | (with_reducible exact ih0 _ _ _ _)
   | (with_reducible exact slices_ContainsFunc_int_int__split_total_1.mono _ _)
   | (with_reducible exact LeO.refl _)
   | (with_reducible exact LeO.none _)
   | (with_reducible refine LeO.ite ?_ ?_)
   | (with_reducible refine LeO.bind ?_ (fun _ => ?_))
   | exact ih0 _ _ _ _
   | exact slices_ContainsFunc_int_int__split_total_1.mono _ _
   | exact LeO.none _
   | refine LeO.ite ?_ ?_
   | refine LeO.bind ?_ (fun _ => ?_)
set_option maxHeartbeats 8000000 in
set_option maxRecDepth 100000 in
theorem split_total.calls (k : Nat) (A0 : Option Addr) (c0 : Nat) (l0 : List Int) (r1 : Int) (r2 : Int) (w : World) (hr0 : Kd.C (Kd.int .i64) w A0 l0.length l0) (hc0 : l0.length ≤ c0) (h : split_total.f k l0 = some (r1, r2)) :
    Calls Try.prog 48 #[.slice A0 l0.length c0] w fun e w' => e = .returned (.tuple #[.int .i64 r1, .int .i64 r2]) ∧ Below w.heap.size w w' := by
 have hu3 := Try.underlying3; have HR0 := Aside0.mk hr0; have HC0 := Aside0.mk hc0; clear hr0 hc0; have HB := Aside0.mk (Below.refl w.heap.size w); have H : ((slices_ContainsFunc_int_int__split_total_1.f k l0).bind fun t104 => (if t104 = true then (some (0, 2)) else (split_total.l0 k 0 l0 (l0.length : Int) 0))) = some (r1, r2) := h; clear h; replace H := Option.bind_eq_some_iff.mp H; obtain ⟨t104, A20, H⟩ := H; replace H : (if t104 = true then (some (0, 2)) else (split_total.l0 k 0 l0 (l0.length : Int) 0)) = some (r1, r2) := H; have A2 := Aside0.mk A20; clear A20
 by_cases c3 : t104 = true
 ·subst c3; have H1 : (some (0, 2)) = some (r1, r2) := by rw [if_pos rfl] at H; exact H
  clear H; have H := H1; clear H1; simp only [Option.some.injEq, Prod.mk.injEq] at H; obtain ⟨rfl, rfl⟩ := H; go_enter Try.func48, Try.ntmps48
  go_wp2_with (first | ((with_reducible refine gate_callee (f := 54) rfl ?_); refine goesL_ (some 7) rfl rfl Try.func54 (by kernel_rfl) rfl #[.slice A0 l0.length c0, .func (.func 55) #[] #[]] rfl pbb3_0 ?_; (with_reducible refine (slices_ContainsFunc_int_int__split_total_1.calls k _ _ l0  true _ ?side1 ?side2 A2.out).mono ?_); (case side1 => repeat (first | exact HR0.out | (with_reducible refine Kd.C_alloc ?_ _) | (with_reducible refine Kd.C_drewN ?_ _) | (with_reducible refine Kd.C_drew ?_))); (case side2 => exact HC0.out); rintro e w4 ⟨rfl, hb⟩; refine ⟨_, rfl, ?_⟩; have n0_ := Aside0.mk (below_step pbb2_2 hb); clear HB; have HB := n0_; clear n0_; (try clear hb); (try clear hb2); (try clear hk); (try clear hi)))
  go_ret2
  exact ⟨pbb2_6, pbb2_2⟩
 ·replace c3 := Bool.eq_false_iff.mpr c3; subst c3; have H1 : (split_total.l0 k 0 l0 (l0.length : Int) 0) = some (r1, r2) := by rw [if_neg (show ¬ (false = true) by decide)] at H; exact H
  clear H; have H := H1; clear H1; have H' := Aside0.mk H; clear H; go_enter Try.func48, Try.ntmps48
  go_wp2_with (first | ((with_reducible refine gate_callee (f := 54) rfl ?_); refine goesL_ (some 7) rfl rfl Try.func54 (by kernel_rfl) rfl #[.slice A0 l0.length c0, .func (.func 55) #[] #[]] rfl pbb3_0 ?_; (with_reducible refine (slices_ContainsFunc_int_int__split_total_1.calls k _ _ l0  false _ ?side1 ?side2 A2.out).mono ?_); (case side1 => repeat (first | exact HR0.out | (with_reducible refine Kd.C_alloc ?_ _) | (with_reducible refine Kd.C_drewN ?_ _) | (with_reducible refine Kd.C_drew ?_))); (case side2 => exact HC0.out); rintro e w5 ⟨rfl, hb⟩; refine ⟨_, rfl, ?_⟩; have n0_ := Aside0.mk (below_step pbb2_2 hb); clear HB; have HB := n0_; clear n0_; (try clear hb); (try clear hb2); (try clear hk); (try clear hi)))
  (try simp only [Act.put, List.setIfInBounds_toArray, List.set_cons_zero, List.set_cons_succ])
  go_loopg [2, 10] k (fun kq v2 v10 w' => ∃ (x2_1 : Int) (x10_1 : Int), v2 = .int .i64 x2_1 ∧ v10 = .int .i64 x10_1 ∧ Aside0 (split_total.l0 kq x2_1 l0 (l0.length : Int) x10_1 = some (r1, r2)) ∧ Aside0 (kq ≤ k) ∧ Aside0 (Below w.heap.size w w'))
  case atStart => exact ⟨(0), (0), pbb2_0, pbb2_0, H', ⟨Nat.le_refl _⟩, ⟨pbb2_2⟩⟩
  case round =>
   clear H'; (try clear p2); (try clear c3); (try clear c4); (try clear c5); obtain ⟨x2_1, x10_1, rfl, rfl, HA, HK1, HB⟩ := hrel
   cases gk with
   | zero => exact absurd HA.out (by simp [split_total.l0])
   | succ k1 =>
    have H := HA.out; clear HA; simp only [split_total.l0] at H
    by_cases c6 : x10_1 < (l0.length : Int)
    ·rw [if_pos c6] at H; have c6b0 : decide (x10_1 < (l0.length : Int)) = true := decide_eq_true c6; clear c6
     by_cases c7 : 0 ≤ x10_1
     ·rw [if_pos c7] at H; have c7b0 : decide (0 ≤ x10_1) = true := decide_eq_true c7; clear c7
      by_cases c8 : x10_1 < (l0.length : Int)
      ·rw [if_pos c8] at H; have c8b0 : decide (x10_1 < (l0.length : Int)) = true := decide_eq_true c8; clear c8
       by_cases c9 : (rd l0 x10_1) > (wrap64 (1000000000000000 - x2_1))
       ·rw [if_pos c9] at H; have c9b0 : decide ((wrap64 (1000000000000000 - x2_1)) < (rd l0 x10_1)) = true := decide_eq_true c9; clear c9; simp only [Option.some.injEq, Prod.mk.injEq] at H; obtain ⟨rfl, rfl⟩ := H; have p105 : 0 ≤ (x10_1 : Int) := of_decide_eq_true pbb4_0; have q105 : x10_1 < (l0.length : Int) := of_decide_eq_true pbb4_0; obtain ⟨ad105, e105, hx105_0⟩ := Kd.at_int HR0.out x10_1 p105 q105
        cases e105
        replace hx105_0 := (HB.out.cell (World.block_lt_of_cell? w _ hx105_0)).trans hx105_0; replace p105 := eq_true p105; replace q105 := eq_true q105
        go_wp2
        go_ret2
        exact ⟨pbb2_6, pbb2_2⟩
       ·rw [if_neg c9] at H; have c9b0 : decide ((wrap64 (1000000000000000 - x2_1)) < (rd l0 x10_1)) = false := decide_eq_false c9; clear c9; have H' := Aside0.mk H; clear H; have p105 : 0 ≤ (x10_1 : Int) := of_decide_eq_true pbb4_0; have q105 : x10_1 < (l0.length : Int) := of_decide_eq_true pbb4_0; obtain ⟨ad105, e105, hx105_0⟩ := Kd.at_int HR0.out x10_1 p105 q105
        cases e105
        replace hx105_0 := (HB.out.cell (World.block_lt_of_cell? w _ hx105_0)).trans hx105_0; replace p105 := eq_true p105; replace q105 := eq_true q105
        go_wp2
        go_roundg k1
        case measure => have := HK1.out; omega
        case rel => exact ⟨(wrap64 (x2_1 + (rd l0 x10_1))), (wrap64 (x10_1 + 1)), pbb2_0, pbb2_0, H', ⟨by have := HK1.out; omega⟩, ⟨pbb2_2⟩⟩
      ·rw [if_neg c8] at H; exact absurd H (by simp)
     ·rw [if_neg c7] at H; exact absurd H (by simp)
    ·rw [if_neg c6] at H; have c6b0 : decide (x10_1 < (l0.length : Int)) = false := decide_eq_false c6; clear c6
     by_cases c10 : x2_1 = 0
     ·rw [if_pos c10] at H; have c10b0 : (x2_1 == 0) = true := beq_iff_eq.mpr c10; have c10b1 : (x2_1 != 0) = false := bne_eq_false_iff_eq.mpr c10; clear c10; simp only [Option.some.injEq, Prod.mk.injEq] at H; obtain ⟨rfl, rfl⟩ := H
      go_wp2
      go_ret2
      exact ⟨pbb2_6, pbb2_2⟩
     ·rw [if_neg c10] at H; have c10b0 : (x2_1 == 0) = false := beq_eq_false_iff_ne.mpr c10; have c10b1 : (x2_1 != 0) = true := bne_iff_ne.mpr c10; simp only [Option.some.injEq, Prod.mk.injEq] at H; obtain ⟨rfl, rfl⟩ := H
      go_wp2
      go_ret2
      exact ⟨pbb2_6, pbb2_2⟩
def pw_copy_24.f (l0 l1 : List Int) : Option (Int × List Int) := some (((min l1.length l0.length : Nat) : Int), l1.take l0.length ++ l0.drop l1.length)
theorem pw_copy_24.calls (P0_ : Nat → Prop) (u9000_ : Value) (l0 : List Int) (A1 : Option Addr) (c1 : Nat) (l1 : List Int) (r1 : Int) (r2 : List Int) (w0 w : World) (hB : Below w0.heap.size w0 w) (ho0 : Kd.R (Kd.int .i64) 3 w w0.heap.size P0_ u9000_ l0) (hr1 : ∀ W_, Kept w W_ (fun k_ => P0_ k_) → Kd.C (Kd.int .i64) W_ A1 l1.length l1) (hc1 : l1.length ≤ c1) (h : pw_copy_24.f l0 l1 = some (r1, r2)) :
    CopyRuns Try.prog 24 24 #[u9000_, .slice A1 l1.length c1] w fun e w' => e = .returned (.int .i64 r1) ∧ Kd.R (Kd.int .i64) 3 w' w0.heap.size (fun k_ => (P0_ k_ ∨ w.heap.size ≤ k_)) u9000_ r2 ∧ Below w0.heap.size w0 w' ∧ Kept w w' (fun k_ => P0_ k_) := by
  simp only [pw_copy_24.f, Option.some.injEq, Prod.mk.injEq] at h; obtain ⟨rfl, rfl⟩ := h; exact copy_runs 24 24 3 Try.underlying24 (by kernel_rfl) P0_ u9000_ l0 A1 c1 l1 0 w0 w hB ho0 (hr1 w (Kept.refl _ _))
def slices_SortStableFunc_int_int__split_ranked_1.f (k : Nat) (l0 : List Int) (s1_0 : List Int) : Option (List Int) := (slices_stableCmpFunc_int__split_ranked_1.f k l0 (l0.length : Int) s1_0).bind fun t101 => (some t101)
theorem slices_SortStableFunc_int_int__split_ranked_1.mono : ∀ a0 a1 k, LeO (slices_SortStableFunc_int_int__split_ranked_1.f k a0 a1) (slices_SortStableFunc_int_int__split_ranked_1.f (k + 1) a0 a1) := by
 intro a0 a1 k
 unfold slices_SortStableFunc_int_int__split_ranked_1.f
 repeat' first
   | (with_reducible exact slices_stableCmpFunc_int__split_ranked_1.mono _ _ _ _)
   | (with_reducible exact LeO.refl _)
   | (with_reducible exact LeO.none _)
   | (with_reducible refine LeO.ite ?_ ?_)
   | (with_reducible refine LeO.bind ?_ (fun _ => ?_))
   | exact slices_stableCmpFunc_int__split_ranked_1.mono _ _ _ _
   | exact LeO.none _
   | refine LeO.ite ?_ ?_
   | refine LeO.bind ?_ (fun _ => ?_)
set_option maxHeartbeats 8000000 in
set_option maxRecDepth 100000 in
theorem slices_SortStableFunc_int_int__split_ranked_1.calls (k : Nat) (P0_ : Nat → Prop) (u9000_ : Value) (l0 : List Int) (g : Nat) (s1_0 : List Int) (r : List Int) (w0 w : World) (hI : IsS24 w0 w g s1_0) (hB : Below w0.heap.size w0 w) (ho0 : Kd.R (Kd.int .i64) 3 w w0.heap.size P0_ u9000_ l0) (h : slices_SortStableFunc_int_int__split_ranked_1.f k l0 s1_0 = some r) :
    Calls Try.prog 59 #[u9000_, .func (.func 60) #[] #[.pointer (some ⟨g, 0, none⟩)]] w fun e w' => e = .returned (.tuple #[]) ∧ IsS24 w0 w' g s1_0 ∧ Kd.R (Kd.int .i64) 3 w' w0.heap.size (fun k_ => (P0_ k_ ∨ w.heap.size ≤ k_)) u9000_ r ∧ Below w0.heap.size w0 w' ∧ Kept w w' (fun k_ => (P0_ k_) ∨ k_ = g) := by
 have HO0 := Aside0.mk (show Kd.R (Kd.int .i64) 3 w w0.heap.size (fun k_ => (P0_ k_ ∨ w.heap.size ≤ k_)) u9000_ l0 from Kd.R_mono ho0 (fun k_ hk => (.inl hk))); have HI1 := Aside0.mk hI; have HL := Aside0.mk hB.size; clear hI; have HK := Aside0.mk (Kept.refl w (fun k_ => (P0_ k_) ∨ k_ = g)); have HW0 := Aside0.mk hB.size; have HB := Aside0.mk hB; clear hB; have H : ((slices_stableCmpFunc_int__split_ranked_1.f k l0 (l0.length : Int) s1_0).bind fun t101 => (some t101)) = some r := h; clear h; replace H := Option.bind_eq_some_iff.mp H; obtain ⟨t101, A30, H⟩ := H; replace H : (some t101) = some r := H; have A3 := Aside0.mk A30; clear A30; obtain rfl := Option.some.inj H; obtain ⟨Ao4, co4, eo4⟩ := Kd.R_slice HO0.out; subst eo4; go_enter Try.func59, Try.ntmps59
 go_wp2_with (first | ((with_reducible refine gate_callee (f := 61) rfl ?_); refine goesL_ (some 8) rfl rfl Try.func61 (by kernel_rfl) rfl #[.slice Ao4 l0.length co4, .int .i64 (l0.length : Int), .func (.func 60) #[] #[.pointer (some ⟨g, 0, none⟩)]] rfl pbb3_0 ?_; (with_reducible refine (slices_stableCmpFunc_int__split_ranked_1.calls k (fun k_ => some k_ = (.slice Ao4 l0.length co4 : Value).ownBlock) (.slice Ao4 l0.length co4) l0 (l0.length : Int) g s1_0 t101 w0 _ ?side1 ?side2 ?side3 A3.out).mono ?_); (case side1 => repeat (first | (with_reducible first | exact HI1.out | apply IsS24.alloc | apply IsS24.drewN | apply IsS24.drew) | exact HI1.out)); (case side2 => repeat (first | (with_reducible first | exact HB.out | apply below_alloc | apply pw_below_drewN | apply below_drew1 | refine below_set ?_ (IsS24.ge HI1.out)) | exact HB.out)); (case side3 => exact Kd.R_tight rfl HO0.out); rintro e w5 ⟨rfl, hi, hy0, hb, hkp⟩; refine ⟨_, rfl, ?_⟩; have n0_ := Aside0.mk (hi); have n1_ := Aside0.mk (Kd.R_reok rfl hy0 (fun k_ e_ => HO0.out.1 k_ e_)); have n2_ := Aside0.mk (Kept.then_ (S := (fun k_ => (P0_ k_) ∨ k_ = g)) pbb4_7 hkp (fun k_ hs_ => Or.elim hs_ (fun hs_ => (fun e_ => Or.imp_left Or.inl ((HO0.out.1 k_ e_.symm))) hs_) (fun e_ => .inl (.inr e_)))); have n3_ := Aside0.mk (hb); clear HI1; clear HO0; clear HK; clear HB; have HI1 := n0_; have HO0 := n1_; have HK := n2_; have HB := n3_; clear n0_ n1_ n2_ n3_; (try clear hb); (try clear hkp); (try clear hy0)))
 first | go_end0 | ((try simp only [Exit.inBlock, Exit.then]); refine bodyPost_ret (results_none rfl _ _ _) rfl ?_)
 exact ⟨pbb2_6, by repeat (first | (with_reducible first | exact HI1.out | apply IsS24.alloc | apply IsS24.drewN | apply IsS24.drew) | exact HI1.out), pbb6_0, by repeat (first | (with_reducible first | exact HB.out | apply below_alloc | apply pw_below_drewN | apply below_drew1 | refine below_set ?_ (IsS24.ge HI1.out)) | exact HB.out), pbb4_7⟩
def split_ranked.l0 : Nat → List Int → Int → Int → List Int → Option (List Int)
  | 0, _, _, _, _ => none
  | k + 1, x3, x10, x11, x103000 => if x11 < x10 then (if 0 ≤ x11 then (if x11 < (x3.length : Int) then (split_ranked.l0 k (x3.set (x11 : Int).toNat x11) x10 (wrap64 (x11 + 1)) x103000) else (none)) else (none)) else (if 0 ≤ (x3.length : Int) then (if ((x3.length : Int) : Int).toNat ≤ 35184372088832 then ((pw_copy_24.f (List.replicate ((x3.length : Int) : Int).toNat 0) x3).bind fun bt110 => ((slices_SortStableFunc_int_int__split_ranked_1.f k bt110.2 x103000).bind fun t112 => (some t112))) else (none)) else (none))
def split_ranked.f (k : Nat) (l0 : List Int) : Option (List Int) := if 0 ≤ (l0.length : Int) then (if ((l0.length : Int) : Int).toNat ≤ 35184372088832 then ((some (List.replicate ((l0.length : Int) : Int).toNat 0 : List Int)).bind fun y103 => (split_ranked.l0 k y103 (y103.length : Int) 0 l0)) else (none)) else (none)
theorem split_ranked.mono_l : ∀ k, (∀ y0 y1 y2 y3, LeO (split_ranked.l0 k y0 y1 y2 y3) (split_ranked.l0 (k + 1) y0 y1 y2 y3))
  | 0 => fun _ _ _ _ r h => by simp [split_ranked.l0] at h
  | k + 1 => by
    have ih0 := split_ranked.mono_l k
    · intro y0 y1 y2 y3
      unfold split_ranked.l0
      repeat' first
      | (with_reducible exact ih0 _ _ _ _)
      | (with_reducible exact slices_SortStableFunc_int_int__split_ranked_1.mono _ _ _)
      | (with_reducible exact LeO.refl _)
      | (with_reducible exact LeO.none _)
      | (with_reducible refine LeO.ite ?_ ?_)
      | (with_reducible refine LeO.bind ?_ (fun _ => ?_))
      | exact ih0 _ _ _ _
      | exact slices_SortStableFunc_int_int__split_ranked_1.mono _ _ _
      | exact LeO.none _
      | refine LeO.ite ?_ ?_
      | refine LeO.bind ?_ (fun _ => ?_)
theorem split_ranked.mono : ∀ a0 k, LeO (split_ranked.f k a0) (split_ranked.f (k + 1) a0) := by
 intro a0 k; have ih0 := split_ranked.mono_l k
 unfold split_ranked.f
 repeat' first
   | (with_reducible exact ih0 _ _ _ _)
   | (with_reducible exact slices_SortStableFunc_int_int__split_ranked_1.mono _ _ _)
   | (with_reducible exact LeO.refl _)
   | (with_reducible exact LeO.none _)
   | (with_reducible refine LeO.ite ?_ ?_)
   | (with_reducible refine LeO.bind ?_ (fun _ => ?_))
   | exact ih0 _ _ _ _
   | exact slices_SortStableFunc_int_int__split_ranked_1.mono _ _ _
   | exact LeO.none _
   | refine LeO.ite ?_ ?_
   | refine LeO.bind ?_ (fun _ => ?_)
set_option maxHeartbeats 8000000 in
set_option maxRecDepth 100000 in
theorem split_ranked.calls (k : Nat) (A0 : Option Addr) (c0 : Nat) (l0 : List Int) (r : List Int) (w : World) (hr0 : Kd.C (Kd.int .i64) w A0 l0.length l0) (hc0 : l0.length ≤ c0) (h : split_ranked.f k l0 = some r) :
    Calls Try.prog 57 #[.slice A0 l0.length c0] w fun e w' => ∃ v0_ : Value, e = .returned (v0_) ∧ Kd.R (Kd.int .i64) 3 w' w.heap.size (fun _ => True) v0_ r ∧ Below w.heap.size w w' := by
 have hu24 := Try.underlying24; have hu3 := Try.underlying3; have HR0 := Aside0.mk hr0; have HC0 := Aside0.mk hc0; clear hr0 hc0; have HB := Aside0.mk (Below.refl w.heap.size w); have H : (if 0 ≤ (l0.length : Int) then (if ((l0.length : Int) : Int).toNat ≤ 35184372088832 then ((some (List.replicate ((l0.length : Int) : Int).toNat 0 : List Int)).bind fun y103 => (split_ranked.l0 k y103 (y103.length : Int) 0 l0)) else (none)) else (none)) = some r := h; clear h
 by_cases c2 : 0 ≤ (l0.length : Int)
 ·rw [if_pos c2] at H; have c2b0 := eq_true c2; have c2b1 : decide (0 ≤ (l0.length : Int)) = true := decide_eq_true c2; clear c2
  by_cases c3 : ((l0.length : Int) : Int).toNat ≤ 35184372088832
  ·rw [if_pos c3] at H; have c3b0 := eq_true c3; have c3b1 : decide (((l0.length : Int) : Int).toNat ≤ 35184372088832) = true := decide_eq_true c3; clear c3; obtain ⟨y103, hy103⟩ : ∃ y_ : List Int, y_ = (List.replicate ((l0.length : Int) : Int).toNat 0) := ⟨_, rfl⟩; replace H : (split_ranked.l0 k y103 (y103.length : Int) 0 l0) = some r := by first | (rw [hy103]; with_reducible exact H) | (have H2_ := (Option.bind_some _ _).symm.trans H; rw [hy103]; with_reducible exact H2_) | (have H2_ := (Option.bind_some _ _).symm.trans H; with_reducible exact H2_) | with_reducible exact H | (rw [hy103]; exact H) | exact H
   have Ny103 := Aside0.mk hy103; clear hy103; have H' := Aside0.mk H; clear H; go_enter Try.func57, Try.ntmps57
   go_wp2_with (first | ((with_reducible refine gate_dst (N := 1) rfl ?_); refine box_event ?hg (N := 1) ?hd (cs := #[.slice A0 l0.length c0]) (t := 24) ?hr ?_; (case hd => rfl); (case hg => rfl); (case hr => first | (go_simp; done) | (go_simp; rfl)); intro gb102 hg w4 hbox hb; have n0_ := Aside0.mk (below_step pbb2_2 hb); have n1_ := Aside0.mk ((show IsS24 w w4 gb102 l0 from ⟨_, _, hbox, (pbb2_3 : w.heap.size ≤ gb102), HR0.out⟩)); have n2_ := Aside0.mk ((pbb2_3 : w.heap.size ≤ gb102)); have n3_ := Aside0.mk ((pbb2_3 : w.heap.size ≤ gb102)); clear HB; have HB := n0_; have HI102 := n1_; have GW102 := n2_; have GE102 := n3_; clear n0_ n1_ n2_ n3_; clear hb hbox hg; obtain ⟨ASz5_0, cSz5_0, HGz5, hgz5, HSz5_0⟩ := HI102.out; have hcz5_0 := cellS24_0 HGz5; clear HGz5 hgz5) | ((with_reducible refine gate_dst (N := 8) rfl ?_); refine Kd.R_make (Kd.int .i64) _ 3 rfl (N := 8) rfl 24 _ _ rfl (l0.length : Int) rfl rfl Try.underlying24 (.int .i64 0) 8 info3 rfl (by decide) (by omega) 0 (ok := fun _ => True) (okp := fun _ => True) rfl (fun _ hk => hk) trivial (of_decide_eq_true pbb4_0) (Nat.le_trans (Nat.mul_le_mul_right _ (of_decide_eq_true pbb4_0 : (l0.length : Int).toNat ≤ 35184372088832)) (by omega)) (Below.refl _ _) (Nat.le_refl _) ?_; intro v104 w6 ho7 hb hg_ hnew_; clear hg_ hnew_; (first | rw [← Ny103.out] at ho7 | (simp only [Int.reduceToNat] at ho7; rw [← Ny103.out] at ho7)); have n0_ := Aside0.mk (Kd.R_lower ho7 (below_size pbb7_3)); have n1_ := Aside0.mk (IsS24.below pbb7_4 hb); have n2_ := Aside0.mk (below_step pbb7_3 hb); clear HI102; clear HB; have HO105 := n0_; have HI102 := n1_; have HB := n2_; clear n0_ n1_ n2_; clear hb ho7; obtain ⟨Ao8, co8, eo8⟩ := Kd.R_slice HO105.out; subst eo8))
   go_loopg [11] k (fun kq v11 w' => ∃ (x3_1 : List Int) (x11_1 : Int), v11 = .int .i64 x11_1 ∧ Aside0 (split_ranked.l0 kq x3_1 (y103.length : Int) x11_1 l0 = some r) ∧ Aside0 (kq ≤ k) ∧ Aside0 (Kd.R (Kd.int .i64) 3 w' w.heap.size (fun _ => True) (.slice Ao8 y103.length co8) x3_1) ∧ Aside0 (IsS24 w w' gb102 l0) ∧ Aside0 (Below w.heap.size w w'))
   case atStart => exact ⟨(y103), (0), pbb2_0, H', ⟨Nat.le_refl _⟩, ⟨by (with_reducible repeat (first | apply Kd.R_alloc | apply Kd.R_drewN | apply Kd.R_drew)); exact HO105.out⟩, ⟨pbb7_4⟩, ⟨pbb7_3⟩⟩
   case round =>
    clear H'; (try clear c2); (try clear c2b0); (try clear c2b1); (try clear p2); (try clear c3); (try clear c3b0); (try clear c3b1); (try clear c5); (try clear hcz5_0); obtain ⟨x3_1, x11_1, rfl, HA, HK1, HO_3, HI102, HB⟩ := hrel; have hl3_1 := (Kd.R_reads' HO_3.out).1; rw [hl3_1] at HO_3; (try simp only [hl3_1])
    cases gk with
    | zero => exact absurd HA.out (by simp [split_ranked.l0])
    | succ k1 =>
     have H := HA.out; clear HA; simp only [split_ranked.l0] at H
     by_cases c9 : x11_1 < (y103.length : Int)
     ·rw [if_pos c9] at H; have c9b0 : decide (x11_1 < (y103.length : Int)) = true := decide_eq_true c9; (try (have c9b0hl3_1 := c9b0; simp only [hl3_1] at c9b0hl3_1)); clear c9
      by_cases c10 : 0 ≤ x11_1
      ·rw [if_pos c10] at H; have c10b0 : decide (0 ≤ x11_1) = true := decide_eq_true c10; clear c10
       by_cases c11 : x11_1 < (x3_1.length : Int)
       ·rw [if_pos c11] at H; have c11b0 : decide (x11_1 < (x3_1.length : Int)) = true := decide_eq_true c11; (try (have c11b0hl3_1 := c11b0; simp only [hl3_1] at c11b0hl3_1)); clear c11; obtain ⟨y106, hy106⟩ : ∃ y_ : List Int, y_ = (x3_1.set (x11_1 : Int).toNat x11_1) := ⟨_, rfl⟩; replace H : (split_ranked.l0 k1 y106 (y103.length : Int) (wrap64 (x11_1 + 1)) l0) = some r := by first | (rw [hy106]; with_reducible exact H) | (have H2_ := (Option.bind_some _ _).symm.trans H; rw [hy106]; with_reducible exact H2_) | (have H2_ := (Option.bind_some _ _).symm.trans H; with_reducible exact H2_) | with_reducible exact H | (rw [hy106]; exact H) | exact H
        have Ny106 := Aside0.mk hy106; clear hy106; have H' := Aside0.mk H; clear H; have p12 : 0 ≤ (x11_1 : Int) := of_decide_eq_true pbb4_0; have q12 : (x11_1 : Int) < ((x3_1.length : Int) : Int) := of_decide_eq_true pbb4_0; obtain ⟨go12, co12, eo12, gb12, gl12, cl12, HG12⟩ := Kd.R_form HO_3.out (by omega); (first | cases eo12 | (injection eo12 with ea_ en_ ec_; (first | subst ea_ | (injection ea_ with ea_; subst ea_)); subst ec_; clear en_)); have GB12 := Aside0.mk gb12; have GG12 := Aside0.mk HG12; clear gb12 gl12 HG12; obtain ⟨hx12_0, hf12_0⟩ := Kd.R_celln 0 HO_3.out (x11_1 : Int) p12 q12; replace p12 := eq_true p12; replace q12 := eq_true q12; have HP13 := Kd.R_putg HO_3.out (x11_1 : Int) x11_1
        go_wp2_with (first | ((with_reducible refine gate_store (t := 3) (p := 17) rfl ?_); refine store_event (t := 3) (p := 17) (v := ?vo_w14) (w1 := (wr.setCell ⟨go12, (x11_1 : Int).toNat, none⟩ (.int .i64 x11_1))) ?hg ?ho ?hn ?hr ?_; (case ho => rfl); (case hg => rfl); (case hn => rfl); (case hr => first | (go_simp; done) | (go_simp; rfl)); intro w14 hw; have hg : wr.grownBy w14 (some go12) := (by rw [hw]; exact HP13.2); have hp_ : Kd.R (Kd.int .i64) 3 w14 w.heap.size (fun _ => True) (.slice (some ⟨go12, 0, none⟩) x3_1.length co8) y106 := (by rw [hw, Ny106.out]; exact HP13.1); clear HP13; have n0_ := Aside0.mk (hp_); have n1_ := Aside0.mk (IsS24.grown pbb7_4 hg (IsS24.own_ne HI102.out HO_3.out (by decide))); have n2_ := Aside0.mk ((by rw [hw]; exact below_set (HB.out) GB12.out : Below w.heap.size w w14)); clear HO_3; clear HI102; clear HB; have HO_3 := n0_; have HI102 := n1_; have HB := n2_; clear n0_ n1_ n2_; clear hg hw hp_))
        (try simp only [← hl3_1])
        go_roundg k1
        case measure => have := HK1.out; omega
        case rel => exact ⟨(y106), (wrap64 (x11_1 + 1)), pbb2_0, H', ⟨by have := HK1.out; omega⟩, ⟨by (try simp only [hl3_1]); (with_reducible repeat (first | apply Kd.R_alloc | apply Kd.R_drewN | apply Kd.R_drew)); exact HO_3.out⟩, ⟨pbb7_4⟩, ⟨pbb7_3⟩⟩
       ·rw [if_neg c11] at H; exact absurd H (by simp)
      ·rw [if_neg c10] at H; exact absurd H (by simp)
     ·rw [if_neg c9] at H; have c9b0 : decide (x11_1 < (y103.length : Int)) = false := decide_eq_false c9; (try (have c9b0hl3_1 := c9b0; simp only [hl3_1] at c9b0hl3_1)); clear c9
      by_cases c15 : 0 ≤ (x3_1.length : Int)
      ·rw [if_pos c15] at H; have c15b0 := eq_true c15; have c15b1 : decide (0 ≤ (x3_1.length : Int)) = true := decide_eq_true c15; (try (have c15b1hl3_1 := c15b1; simp only [hl3_1] at c15b1hl3_1)); clear c15
       by_cases c16 : ((x3_1.length : Int) : Int).toNat ≤ 35184372088832
       ·rw [if_pos c16] at H; have c16b0 := eq_true c16; have c16b1 : decide (((x3_1.length : Int) : Int).toNat ≤ 35184372088832) = true := decide_eq_true c16; (try (have c16b1hl3_1 := c16b1; simp only [hl3_1] at c16b1hl3_1)); clear c16; obtain ⟨y107, hy107⟩ : ∃ y_ : List Int, y_ = (List.replicate ((x3_1.length : Int) : Int).toNat 0) := ⟨_, rfl⟩; replace H : ((pw_copy_24.f y107 x3_1).bind fun bt110 => ((slices_SortStableFunc_int_int__split_ranked_1.f k1 bt110.2 l0).bind fun t112 => (some t112))) = some r := by first | (rw [hy107]; with_reducible exact H) | (have H2_ := (Option.bind_some _ _).symm.trans H; rw [hy107]; with_reducible exact H2_) | (have H2_ := (Option.bind_some _ _).symm.trans H; with_reducible exact H2_) | with_reducible exact H | (rw [hy107]; exact H) | exact H
        have Ny107 := Aside0.mk hy107; clear hy107; replace H := Option.bind_eq_some_iff.mp H; obtain ⟨⟨t110, t111⟩, A170, H⟩ := H; replace H : ((slices_SortStableFunc_int_int__split_ranked_1.f k1 t111 l0).bind fun t112 => (some t112)) = some r := H; have A17 := Aside0.mk A170; clear A170; replace H := Option.bind_eq_some_iff.mp H; obtain ⟨t112, A180, H⟩ := H; replace H : (some t112) = some r := H; have A18 := Aside0.mk A180; clear A180; obtain rfl := Option.some.inj H
        go_wp2_with (first | ((with_reducible refine gate_dst (N := 21) rfl ?_); refine Kd.R_make (Kd.int .i64) _ 3 rfl (N := 21) rfl 24 _ _ rfl (x3_1.length : Int) rfl rfl Try.underlying24 (.int .i64 0) 8 info3 rfl (by decide) (by omega) 0 (ok := fun _ => True) (okp := fun _ => True) rfl (fun _ hk => hk) trivial (of_decide_eq_true pbb4_0) (Nat.le_trans (Nat.mul_le_mul_right _ (of_decide_eq_true pbb4_0 : (x3_1.length : Int).toNat ≤ 35184372088832)) (by omega)) (Below.refl _ _) (Nat.le_refl _) ?_; intro v108 w19 ho20 hb hg_ hnew_; clear hg_ hnew_; (first | rw [← Ny107.out] at ho20 | (simp only [Int.reduceToNat] at ho20; rw [← Ny107.out] at ho20)); have n0_ := Aside0.mk (Kd.R_elder' (by (with_reducible repeat (first | apply Kd.R_alloc | apply Kd.R_drewN | apply Kd.R_drew)); exact HO_3.out) (Kd.R_base ho20) hb); have n1_ := Aside0.mk (Kd.R_lower (Kd.R_new' ho20 (Kd.R_lt (by (with_reducible repeat (first | apply Kd.R_alloc | apply Kd.R_drewN | apply Kd.R_drew)); exact HO_3.out))) (below_size pbb7_3)); have n2_ := Aside0.mk (IsS24.below pbb7_4 hb); have n3_ := Aside0.mk (below_step pbb7_3 hb); clear HO_3; clear HI102; clear HB; have HO_3 := n0_; have HO109 := n1_; have HI102 := n2_; have HB := n3_; clear n0_ n1_ n2_ n3_; clear hb ho20; obtain ⟨Ao21, co21, eo21⟩ := Kd.R_slice HO109.out; subst eo21) | (refine copyL_ (some 24) rfl rfl rfl #[.slice Ao21 y107.length co21, .slice Ao8 x3_1.length co8] (by first | rfl | (simp only [List.length_drop, List.length_take]; rfl)) ?_; (with_reducible refine (pw_copy_24.calls (fun k_ => some k_ = (.slice Ao21 y107.length co21 : Value).ownBlock) (.slice Ao21 y107.length co21) y107 _ _ x3_1 t110 t111 w _ ?side1 ?side2 ?side3 ?side4 A17.out).mono ?_); (case side1 => repeat (first | (with_reducible first | exact HB.out | apply below_alloc | apply pw_below_drewN | apply below_drew1 | refine below_set ?_ (IsS24.ge HI102.out)) | exact HB.out)); (case side2 => exact Kd.R_tight rfl HO109.out); (case side3 => exact Kd.C_kept_own (HO_3.out) (fun k_ hk_ hs_ => (hk_.2) hs_)); (case side4 => exact (Kd.R_reads' HO_3.out).2.1); rintro e w22 ⟨rfl, hy0, hb, hkp⟩; refine ⟨_, rfl, ?_⟩; have n0_ := Aside0.mk (Kd.R_mono (ok' := fun k_ => some k_ ≠ (.slice Ao21 y107.length co21 : Value).ownBlock) (Kd.R_keptB (HO_3.out) hkp (fun k_ hk_ hs_ => (hk_.2) hs_)) (fun k_ hk_ => hk_.1.2)); have n1_ := Aside0.mk (IsS24.kept pbb7_4 hkp (fun hs_ => (fun e_ => (IsS24.own_ne HI102.out HO109.out (by decide)) e_) hs_)); have n2_ := Aside0.mk (Kd.R_reok rfl hy0 (fun k_ e_ => HO109.out.1 k_ e_)); have n3_ := Aside0.mk (hb); clear HO_3; clear HI102; clear HO109; clear HB; have HO_3 := n0_; have HI102 := n1_; have HO109 := n2_; have HB := n3_; clear n0_ n1_ n2_ n3_; (try clear hb); (try clear hkp); (try clear hy0)) | ((with_reducible refine gate_callee (f := 59) rfl ?_); refine goesL_ (some 27) rfl rfl Try.func59 (by kernel_rfl) rfl #[.slice Ao21 y107.length co21, .func (.func 60) #[] #[.pointer (some ⟨gb102, 0, none⟩)]] rfl pbb3_0 ?_; (with_reducible refine (slices_SortStableFunc_int_int__split_ranked_1.calls k1 (fun k_ => some k_ = (.slice Ao21 y107.length co21 : Value).ownBlock) (.slice Ao21 y107.length co21) t111 gb102 l0 t112 w _ ?side1 ?side2 ?side3 A18.out).mono ?_); (case side1 => repeat (first | (with_reducible first | exact HI102.out | apply IsS24.alloc | apply IsS24.drewN | apply IsS24.drew) | exact HI102.out)); (case side2 => repeat (first | (with_reducible first | exact HB.out | apply below_alloc | apply pw_below_drewN | apply below_drew1 | refine below_set ?_ (IsS24.ge HI102.out)) | exact HB.out)); (case side3 => exact Kd.R_tight rfl HO109.out); rintro e w23 ⟨rfl, hi, hy0, hb, hkp⟩; refine ⟨_, rfl, ?_⟩; have n0_ := Aside0.mk (Kd.R_mono (ok' := fun k_ => some k_ ≠ (.slice Ao21 y107.length co21 : Value).ownBlock) (Kd.R_keptB ((IsS24.apart HI102.out HO_3.out (by decide))) hkp (fun k_ hk_ hs_ => Or.elim hs_ (fun hs_ => (hk_.1) hs_) (fun e_ => (hk_.2) e_))) (fun k_ hk_ => hk_.1.1)); have n1_ := Aside0.mk (hi); have n2_ := Aside0.mk (Kd.R_reok rfl hy0 (fun k_ e_ => HO109.out.1 k_ e_)); have n3_ := Aside0.mk (hb); clear HO_3; clear HI102; clear HO109; clear HB; have HO_3 := n0_; have HI102 := n1_; have HO109 := n2_; have HB := n3_; clear n0_ n1_ n2_ n3_; (try clear hb); (try clear hkp); (try clear hy0)))
        go_ret
        exact ⟨_, pbb2_6, by (with_reducible repeat (first | apply Kd.R_alloc | apply Kd.R_drewN | apply Kd.R_drew)); exact Kd.R_mono HO109.out (fun _ hk => trivial), pbb7_3⟩
       ·rw [if_neg c16] at H; exact absurd H (by simp)
      ·rw [if_neg c15] at H; exact absurd H (by simp)
  ·rw [if_neg c3] at H; exact absurd H (by simp)
 ·rw [if_neg c2] at H; exact absurd H (by simp)
mutual
def split_divide.l0 : Nat → Int → Int → List Int → List Int → Int → List Int → Int → Int → Option (List Int)
  | 0, _, _, _, _, _, _, _, _ => none
  | k + 1, x0, x1, x7, x8, x9, x25, x26, x27 => if x27 < x26 then (if 0 ≤ x27 then (if x27 < (x25.length : Int) then ((muldiv_MulDiv.f k x0 (rd x25 x27) x1 1).bind fun bt108 => ((muldiv_Mod.f x0 (rd x25 x27) x1).bind fun bt110 => (if x27 < (x7.length : Int) then (if x27 < (x8.length : Int) then (split_divide.l0 k x0 x1 (x7.set (x27 : Int).toNat bt108.1) (x8.set (x27 : Int).toNat bt110.1) (wrap64 (x9 - bt108.1)) x25 x26 (wrap64 (x27 + 1))) else (none)) else (none)))) else (none)) else (none)) else ((split_ranked.f k x8).bind fun t114 => (if 0 ≤ x9 then (if x9 ≤ (t114.length : Int) then ((some (t114.take (x9 : Int).toNat : List Int)).bind fun y117 => (split_divide.l1 k x7 y117 (y117.length : Int) 0)) else (none)) else (none)))
def split_divide.l1 : Nat → List Int → List Int → Int → Int → Option (List Int)
  | 0, _, _, _, _ => none
  | k + 1, x7, x61, x62, x63 => if x63 < x62 then (if 0 ≤ x63 then (if x63 < (x61.length : Int) then (if 0 ≤ (rd x61 x63) then (if (rd x61 x63) < (x7.length : Int) then (split_divide.l1 k (x7.set ((rd x61 x63) : Int).toNat (wrap64 ((rd x7 (rd x61 x63)) + 1))) x61 x62 (wrap64 (x63 + 1))) else (none)) else (none)) else (none)) else (none)) else (some x7)
end
def split_divide.f (k : Nat) (a0 : Int) (a1 : Int) (l2 : List Int) : Option (List Int) := if 0 ≤ (l2.length : Int) then (if ((l2.length : Int) : Int).toNat ≤ 35184372088832 then (split_divide.l0 k a0 a1 (List.replicate ((l2.length : Int) : Int).toNat 0) (List.replicate ((l2.length : Int) : Int).toNat 0) a0 l2 (l2.length : Int) 0) else (none)) else (none)
theorem split_divide.mono_l : ∀ k, (∀ y0 y1 y2 y3 y4 y5 y6 y7, LeO (split_divide.l0 k y0 y1 y2 y3 y4 y5 y6 y7) (split_divide.l0 (k + 1) y0 y1 y2 y3 y4 y5 y6 y7)) ∧ (∀ y0 y1 y2 y3, LeO (split_divide.l1 k y0 y1 y2 y3) (split_divide.l1 (k + 1) y0 y1 y2 y3))
  | 0 => ⟨fun _ _ _ _ _ _ _ _ r h => by simp [split_divide.l0] at h, fun _ _ _ _ r h => by simp [split_divide.l1] at h⟩
  | k + 1 => by
    obtain ⟨ih0, ih1⟩ := split_divide.mono_l k; refine ⟨?_, ?_⟩
    · intro y0 y1 y2 y3 y4 y5 y6 y7
      unfold split_divide.l0
      repeat' first
      | (with_reducible exact ih0 _ _ _ _ _ _ _ _)
      | (with_reducible exact ih1 _ _ _ _)
      | (with_reducible exact muldiv_MulDiv.mono _ _ _ _ _)
      | (with_reducible exact split_ranked.mono _ _)
      | (with_reducible exact LeO.refl _)
      | (with_reducible exact LeO.none _)
      | (with_reducible refine LeO.ite ?_ ?_)
      | (with_reducible refine LeO.bind ?_ (fun _ => ?_))
      | exact ih0 _ _ _ _ _ _ _ _
      | exact ih1 _ _ _ _
      | exact muldiv_MulDiv.mono _ _ _ _ _
      | exact split_ranked.mono _ _
      | exact LeO.none _
      | refine LeO.ite ?_ ?_
      | refine LeO.bind ?_ (fun _ => ?_)
    · intro y0 y1 y2 y3
      unfold split_divide.l1
      repeat' first
      | (with_reducible exact ih0 _ _ _ _ _ _ _ _)
      | (with_reducible exact ih1 _ _ _ _)
      | (with_reducible exact muldiv_MulDiv.mono _ _ _ _ _)
      | (with_reducible exact split_ranked.mono _ _)
      | (with_reducible exact LeO.refl _)
      | (with_reducible exact LeO.none _)
      | (with_reducible refine LeO.ite ?_ ?_)
      | (with_reducible refine LeO.bind ?_ (fun _ => ?_))
      | exact ih0 _ _ _ _ _ _ _ _
      | exact ih1 _ _ _ _
      | exact muldiv_MulDiv.mono _ _ _ _ _
      | exact split_ranked.mono _ _
      | exact LeO.none _
      | refine LeO.ite ?_ ?_
      | refine LeO.bind ?_ (fun _ => ?_)
theorem split_divide.mono : ∀ a0 a1 a2 k, LeO (split_divide.f k a0 a1 a2) (split_divide.f (k + 1) a0 a1 a2) := by
 intro a0 a1 a2 k; obtain ⟨ih0, ih1⟩ := split_divide.mono_l k
 unfold split_divide.f
 repeat' first
   | (with_reducible exact ih0 _ _ _ _ _ _ _ _)
   | (with_reducible exact ih1 _ _ _ _)
   | (with_reducible exact muldiv_MulDiv.mono _ _ _ _ _)
   | (with_reducible exact split_ranked.mono _ _)
   | (with_reducible exact LeO.refl _)
   | (with_reducible exact LeO.none _)
   | (with_reducible refine LeO.ite ?_ ?_)
   | (with_reducible refine LeO.bind ?_ (fun _ => ?_))
   | exact ih0 _ _ _ _ _ _ _ _
   | exact ih1 _ _ _ _
   | exact muldiv_MulDiv.mono _ _ _ _ _
   | exact split_ranked.mono _ _
   | exact LeO.none _
   | refine LeO.ite ?_ ?_
   | refine LeO.bind ?_ (fun _ => ?_)
set_option maxHeartbeats 8000000 in
set_option maxRecDepth 100000 in
theorem split_divide.calls (k : Nat) (a0 : Int) (a1 : Int) (A2 : Option Addr) (c2 : Nat) (l2 : List Int) (r : List Int) (w : World) (hr2 : Kd.C (Kd.int .i64) w A2 l2.length l2) (hc2 : l2.length ≤ c2) (h : split_divide.f k a0 a1 l2 = some r) :
    Calls Try.prog 49 #[.int .i64 a0, .int .i64 a1, .slice A2 l2.length c2] w fun e w' => ∃ v0_ : Value, e = .returned (v0_) ∧ Kd.R (Kd.int .i64) 3 w' w.heap.size (fun _ => True) v0_ r ∧ Below w.heap.size w w' := by
 have hu3 := Try.underlying3; have HR2 := Aside0.mk hr2; have HC2 := Aside0.mk hc2; clear hr2 hc2; have HB := Aside0.mk (Below.refl w.heap.size w); have H : (if 0 ≤ (l2.length : Int) then (if ((l2.length : Int) : Int).toNat ≤ 35184372088832 then (split_divide.l0 k a0 a1 (List.replicate ((l2.length : Int) : Int).toNat 0) (List.replicate ((l2.length : Int) : Int).toNat 0) a0 l2 (l2.length : Int) 0) else (none)) else (none)) = some r := h; clear h
 by_cases c4 : 0 ≤ (l2.length : Int)
 ·rw [if_pos c4] at H; have c4b0 := eq_true c4; have c4b1 : decide (0 ≤ (l2.length : Int)) = true := decide_eq_true c4; clear c4
  by_cases c5 : ((l2.length : Int) : Int).toNat ≤ 35184372088832
  ·rw [if_pos c5] at H; have c5b0 := eq_true c5; have c5b1 : decide (((l2.length : Int) : Int).toNat ≤ 35184372088832) = true := decide_eq_true c5; clear c5; obtain ⟨y101, hy101⟩ : ∃ y_ : List Int, y_ = (List.replicate ((l2.length : Int) : Int).toNat 0) := ⟨_, rfl⟩; replace H : (split_divide.l0 k a0 a1 y101 (List.replicate ((l2.length : Int) : Int).toNat 0) a0 l2 (l2.length : Int) 0) = some r := by first | (rw [hy101]; with_reducible exact H) | (have H2_ := (Option.bind_some _ _).symm.trans H; rw [hy101]; with_reducible exact H2_) | (have H2_ := (Option.bind_some _ _).symm.trans H; with_reducible exact H2_) | with_reducible exact H | (rw [hy101]; exact H) | exact H
   have Ny101 := Aside0.mk hy101; clear hy101; obtain ⟨y104, hy104⟩ : ∃ y_ : List Int, y_ = (List.replicate ((l2.length : Int) : Int).toNat 0) := ⟨_, rfl⟩; replace H : (split_divide.l0 k a0 a1 y101 y104 a0 l2 (l2.length : Int) 0) = some r := by first | (rw [hy104]; with_reducible exact H) | (have H2_ := (Option.bind_some _ _).symm.trans H; rw [hy104]; with_reducible exact H2_) | (have H2_ := (Option.bind_some _ _).symm.trans H; with_reducible exact H2_) | with_reducible exact H | (rw [hy104]; exact H) | exact H
   have Ny104 := Aside0.mk hy104; clear hy104; have H' := Aside0.mk H; clear H; go_enter Try.func49, Try.ntmps49
   go_wp2_with (first | ((with_reducible refine gate_dst (N := 20) rfl ?_); refine Kd.R_make (Kd.int .i64) _ 3 rfl (N := 20) rfl 24 _ _ rfl (l2.length : Int) rfl rfl Try.underlying24 (.int .i64 0) 8 info3 rfl (by decide) (by omega) 0 (ok := fun _ => True) (okp := fun _ => True) rfl (fun _ hk => hk) trivial (of_decide_eq_true pbb4_0) (Nat.le_trans (Nat.mul_le_mul_right _ (of_decide_eq_true pbb4_0 : (l2.length : Int).toNat ≤ 35184372088832)) (by omega)) (Below.refl _ _) (Nat.le_refl _) ?_; intro v102 w6 ho7 hb hg_ hnew_; clear hg_ hnew_; (first | rw [← Ny101.out] at ho7 | (simp only [Int.reduceToNat] at ho7; rw [← Ny101.out] at ho7)); have n0_ := Aside0.mk (Kd.R_lower ho7 (below_size pbb2_2)); have n1_ := Aside0.mk (below_step pbb2_2 hb); clear HB; have HO103 := n0_; have HB := n1_; clear n0_ n1_; clear hb ho7) | ((with_reducible refine gate_dst (N := 23) rfl ?_); refine Kd.R_make (Kd.int .i64) _ 3 rfl (N := 23) rfl 24 _ _ rfl (l2.length : Int) rfl rfl Try.underlying24 (.int .i64 0) 8 info3 rfl (by decide) (by omega) 0 (ok := fun _ => True) (okp := fun _ => True) rfl (fun _ hk => hk) trivial (of_decide_eq_true pbb4_0) (Nat.le_trans (Nat.mul_le_mul_right _ (of_decide_eq_true pbb4_0 : (l2.length : Int).toNat ≤ 35184372088832)) (by omega)) (Below.refl _ _) (Nat.le_refl _) ?_; intro v105 w8 ho9 hb hg_ hnew_; clear hg_ hnew_; (first | rw [← Ny104.out] at ho9 | (simp only [Int.reduceToNat] at ho9; rw [← Ny104.out] at ho9)); have n0_ := Aside0.mk (Kd.R_elder' (by (with_reducible repeat (first | apply Kd.R_alloc | apply Kd.R_drewN | apply Kd.R_drew)); exact HO103.out) (Kd.R_base ho9) hb); have n1_ := Aside0.mk (Kd.R_lower (Kd.R_new' ho9 (Kd.R_lt (by (with_reducible repeat (first | apply Kd.R_alloc | apply Kd.R_drewN | apply Kd.R_drew)); exact HO103.out))) (below_size pbb2_2)); have n2_ := Aside0.mk (below_step pbb2_2 hb); clear HO103; clear HB; have HO103 := n0_; have HO106 := n1_; have HB := n2_; clear n0_ n1_ n2_; clear hb ho9))
   go_loopg [9, 27] k (fun kq v9 v27 w' => ∃ (x7_1 : List Int) (x8_1 : List Int) (x9_1 : Int) (x27_1 : Int), v9 = .int .i64 x9_1 ∧ v27 = .int .i64 x27_1 ∧ Aside0 (split_divide.l0 kq a0 a1 x7_1 x8_1 x9_1 l2 (l2.length : Int) x27_1 = some r) ∧ Aside0 (kq ≤ k) ∧ Aside0 (Kd.R (Kd.int .i64) 3 w' w.heap.size (fun k_ => some k_ ≠ (v105 : Value).ownBlock) v102 x7_1) ∧ Aside0 (Kd.R (Kd.int .i64) 3 w' w.heap.size (fun k_ => some k_ ≠ (v102 : Value).ownBlock) v105 x8_1) ∧ Aside0 (Below w.heap.size w w'))
   case atStart => exact ⟨(y101), (y104), (a0), (0), pbb2_0, pbb2_0, H', ⟨Nat.le_refl _⟩, ⟨by (with_reducible repeat (first | apply Kd.R_alloc | apply Kd.R_drewN | apply Kd.R_drew)); exact Kd.R_mono HO103.out (fun _ hk => hk.2)⟩, ⟨by (with_reducible repeat (first | apply Kd.R_alloc | apply Kd.R_drewN | apply Kd.R_drew)); exact Kd.R_mono HO106.out (fun _ hk => hk.2)⟩, ⟨pbb2_2⟩⟩
   case round =>
    clear H'; (try clear c2); (try clear p2); (try clear c4); (try clear c4b0); (try clear c4b1); (try clear c5); (try clear c5b0); (try clear c5b1); obtain ⟨x7_1, x8_1, x9_1, x27_1, rfl, rfl, HA, HK1, HO_7, HO_8, HB⟩ := hrel
    cases gk with
    | zero => exact absurd HA.out (by simp [split_divide.l0])
    | succ k1 =>
     have H := HA.out; clear HA; simp only [split_divide.l0] at H
     by_cases c10 : x27_1 < (l2.length : Int)
     ·rw [if_pos c10] at H; have c10b0 : decide (x27_1 < (l2.length : Int)) = true := decide_eq_true c10; clear c10
      by_cases c11 : 0 ≤ x27_1
      ·rw [if_pos c11] at H; have c11b0 : decide (0 ≤ x27_1) = true := decide_eq_true c11; clear c11
       by_cases c12 : x27_1 < (l2.length : Int)
       ·rw [if_pos c12] at H; have c12b0 : decide (x27_1 < (l2.length : Int)) = true := decide_eq_true c12; clear c12; replace H := Option.bind_eq_some_iff.mp H; obtain ⟨⟨t108, t109⟩, A130, H⟩ := H; replace H : ((muldiv_Mod.f a0 (rd l2 x27_1) a1).bind fun bt110 => (if x27_1 < (x7_1.length : Int) then (if x27_1 < (x8_1.length : Int) then (split_divide.l0 k1 a0 a1 (x7_1.set (x27_1 : Int).toNat t108) (x8_1.set (x27_1 : Int).toNat bt110.1) (wrap64 (x9_1 - t108)) l2 (l2.length : Int) (wrap64 (x27_1 + 1))) else (none)) else (none))) = some r := H; have A13 := Aside0.mk A130; clear A130; replace H := Option.bind_eq_some_iff.mp H; obtain ⟨⟨t110, t111⟩, A140, H⟩ := H; replace H : (if x27_1 < (x7_1.length : Int) then (if x27_1 < (x8_1.length : Int) then (split_divide.l0 k1 a0 a1 (x7_1.set (x27_1 : Int).toNat t108) (x8_1.set (x27_1 : Int).toNat t110) (wrap64 (x9_1 - t108)) l2 (l2.length : Int) (wrap64 (x27_1 + 1))) else (none)) else (none)) = some r := H; have A14 := Aside0.mk A140; clear A140
        by_cases c15 : x27_1 < (x7_1.length : Int)
        ·rw [if_pos c15] at H; have c15b0 : decide (x27_1 < (x7_1.length : Int)) = true := decide_eq_true c15; clear c15; obtain ⟨y112, hy112⟩ : ∃ y_ : List Int, y_ = (x7_1.set (x27_1 : Int).toNat t108) := ⟨_, rfl⟩; replace H : (if x27_1 < (x8_1.length : Int) then (split_divide.l0 k1 a0 a1 y112 (x8_1.set (x27_1 : Int).toNat t110) (wrap64 (x9_1 - t108)) l2 (l2.length : Int) (wrap64 (x27_1 + 1))) else (none)) = some r := by first | (rw [hy112]; with_reducible exact H) | (have H2_ := (Option.bind_some _ _).symm.trans H; rw [hy112]; with_reducible exact H2_) | (have H2_ := (Option.bind_some _ _).symm.trans H; with_reducible exact H2_) | with_reducible exact H | (rw [hy112]; exact H) | exact H
         have Ny112 := Aside0.mk hy112; clear hy112
         by_cases c17 : x27_1 < (x8_1.length : Int)
         ·rw [if_pos c17] at H; have c17b0 : decide (x27_1 < (x8_1.length : Int)) = true := decide_eq_true c17; clear c17; obtain ⟨y113, hy113⟩ : ∃ y_ : List Int, y_ = (x8_1.set (x27_1 : Int).toNat t110) := ⟨_, rfl⟩; replace H : (split_divide.l0 k1 a0 a1 y112 y113 (wrap64 (x9_1 - t108)) l2 (l2.length : Int) (wrap64 (x27_1 + 1))) = some r := by first | (rw [hy113]; with_reducible exact H) | (have H2_ := (Option.bind_some _ _).symm.trans H; rw [hy113]; with_reducible exact H2_) | (have H2_ := (Option.bind_some _ _).symm.trans H; with_reducible exact H2_) | with_reducible exact H | (rw [hy113]; exact H) | exact H
          have Ny113 := Aside0.mk hy113; clear hy113; have H' := Aside0.mk H; clear H; have p107 : 0 ≤ (x27_1 : Int) := of_decide_eq_true pbb4_0; have q107 : x27_1 < (l2.length : Int) := of_decide_eq_true pbb4_0; obtain ⟨ad107, e107, hx107_0⟩ := Kd.at_int HR2.out x27_1 p107 q107
          cases e107
          replace hx107_0 := (HB.out.cell (World.block_lt_of_cell? w _ hx107_0)).trans hx107_0; replace p107 := eq_true p107; replace q107 := eq_true q107
          go_wp2_with (first | ((with_reducible refine gate_callee (f := 34) rfl ?_); refine goesL_ (some 36) rfl rfl Try.func34 (by kernel_rfl) rfl #[.int .i64 a0, .int .i64 (rd l2 x27_1), .int .i64 a1, .int .i64 1] rfl pbb3_0 ?_; (with_reducible refine (muldiv_MulDiv.calls k1 a0 (rd l2 x27_1) a1 1 t108 t109 _ A13.out).mono ?_); rintro e w19 ⟨rfl, hb⟩; refine ⟨_, rfl, ?_⟩; have n0_ := Aside0.mk (Kd.R_below pbb7_5 hb); have n1_ := Aside0.mk (Kd.R_below pbb7_6 hb); have n2_ := Aside0.mk (below_step pbb2_2 hb); clear HO_7; clear HO_8; clear HB; have HO_7 := n0_; have HO_8 := n1_; have HB := n2_; clear n0_ n1_ n2_; (try clear hb); (try clear hb2); (try clear hk); (try clear hi)) | ((with_reducible refine gate_callee (f := 56) rfl ?_); refine goesL_ (some 43) rfl rfl Try.func56 (by kernel_rfl) rfl #[.int .i64 a0, .int .i64 (rd l2 x27_1), .int .i64 a1] rfl pbb3_0 ?_; (with_reducible refine (muldiv_Mod.calls a0 (rd l2 x27_1) a1 t110 t111 _ A14.out).mono ?_); rintro e w20 ⟨rfl, hb⟩; refine ⟨_, rfl, ?_⟩; have n0_ := Aside0.mk (Kd.R_below pbb7_5 hb); have n1_ := Aside0.mk (Kd.R_below pbb7_6 hb); have n2_ := Aside0.mk (below_step pbb2_2 hb); clear HO_7; clear HO_8; clear HB; have HO_7 := n0_; have HO_8 := n1_; have HB := n2_; clear n0_ n1_ n2_; (try clear hb); (try clear hb2); (try clear hk); (try clear hi); have p16 : 0 ≤ (x27_1 : Int) := of_decide_eq_true pbb4_0; have q16 : (x27_1 : Int) < ((x7_1.length : Int) : Int) := of_decide_eq_true pbb4_0; obtain ⟨go16, co16, eo16, gb16, gl16, cl16, HG16⟩ := Kd.R_form HO_7.out (by omega); (first | cases eo16 | (injection eo16 with ea_ en_ ec_; (first | subst ea_ | (injection ea_ with ea_; subst ea_)); subst ec_; clear en_)); have GB16 := Aside0.mk gb16; have GG16 := Aside0.mk HG16; clear gb16 gl16 HG16; obtain ⟨hx16_0, hf16_0⟩ := Kd.R_celln 0 HO_7.out (x27_1 : Int) p16 q16; replace p16 := eq_true p16; replace q16 := eq_true q16; obtain ⟨hy21_, hz21_⟩ := Kd.R_celln 0 HO_7.out (x27_1 : Int) (of_decide_eq_true pbb4_0) (of_decide_eq_true pbb4_0); have HP21 := Kd.R_putg HO_7.out (x27_1 : Int) t108) | ((with_reducible refine gate_store (t := 3) (p := 49) rfl ?_); refine store_event (t := 3) (p := 49) (v := ?vo_w22) (w1 := (w20.setCell ⟨go16, (x27_1 : Int).toNat, none⟩ (.int .i64 t108))) ?hg ?ho ?hn ?hr ?_; (case ho => rfl); (case hg => rfl); (case hn => rfl); (case hr => first | (go_simp; done) | (go_simp; rfl)); intro w22 hw; have hg : w20.grownBy w22 (some go16) := (by rw [hw]; exact HP21.2); have hp_ : Kd.R (Kd.int .i64) 3 w22 w.heap.size (fun k_ => some k_ ≠ (v105 : Value).ownBlock) (.slice (some ⟨go16, 0, none⟩) x7_1.length co16) y112 := (by rw [hw, Ny112.out]; exact HP21.1); clear HP21; have n0_ := Aside0.mk (hp_); have n1_ := Aside0.mk (Kd.R_after (v := (.slice (some ⟨go16, 0, none⟩) x7_1.length co16)) (v1 := (.slice (some ⟨go16, 0, none⟩) x7_1.length co16)) (ok := (fun _ => True)) (by (with_reducible repeat (first | apply Kd.R_alloc | apply Kd.R_drewN | apply Kd.R_drew)); exact Kd.R_mono HO_8.out (fun _ hk => ⟨trivial, hk⟩)) hg (.inl rfl)); have n2_ := Aside0.mk ((by rw [hw]; exact below_set (HB.out) GB16.out : Below w.heap.size w w22)); clear HO_7; clear HO_8; clear HB; have HO_7 := n0_; have HO_8 := n1_; have HB := n2_; clear n0_ n1_ n2_; clear hg hw hp_; have p18 : 0 ≤ (x27_1 : Int) := of_decide_eq_true pbb4_0; have q18 : (x27_1 : Int) < ((x8_1.length : Int) : Int) := of_decide_eq_true pbb4_0; obtain ⟨go18, co18, eo18, gb18, gl18, cl18, HG18⟩ := Kd.R_form HO_8.out (by omega); (first | cases eo18 | (injection eo18 with ea_ en_ ec_; (first | subst ea_ | (injection ea_ with ea_; subst ea_)); subst ec_; clear en_)); have GB18 := Aside0.mk gb18; have GG18 := Aside0.mk HG18; clear gb18 gl18 HG18; obtain ⟨hx18_0, hf18_0⟩ := Kd.R_celln 0 HO_8.out (x27_1 : Int) p18 q18; replace p18 := eq_true p18; replace q18 := eq_true q18; have n_ := Aside0.mk (Kd.R_mono (ok' := (fun k_ => some k_ ≠ (.slice (some ⟨go16, 0, none⟩) x7_1.length co16 : Value).ownBlock)) HO_8.out (fun k_ hk => hk.2)); clear HO_8; have HO_8 := n_; clear n_; obtain ⟨hy23_, hz23_⟩ := Kd.R_celln 0 HO_8.out (x27_1 : Int) (of_decide_eq_true pbb4_0) (of_decide_eq_true pbb4_0); have HP23 := Kd.R_putg HO_8.out (x27_1 : Int) t110) | ((with_reducible refine gate_store (t := 3) (p := 53) rfl ?_); refine store_event (t := 3) (p := 53) (v := ?vo_w24) (w1 := (w22.setCell ⟨go18, (x27_1 : Int).toNat, none⟩ (.int .i64 t110))) ?hg ?ho ?hn ?hr ?_; (case ho => rfl); (case hg => rfl); (case hn => rfl); (case hr => first | (go_simp; done) | (go_simp; rfl)); intro w24 hw; have hg : w22.grownBy w24 (some go18) := (by rw [hw]; exact HP23.2); have hp_ : Kd.R (Kd.int .i64) 3 w24 w.heap.size (fun k_ => some k_ ≠ (.slice (some ⟨go16, 0, none⟩) x7_1.length co16 : Value).ownBlock) (.slice (some ⟨go18, 0, none⟩) x8_1.length co18) y113 := (by rw [hw, Ny113.out]; exact HP23.1); clear HP23; have n0_ := Aside0.mk (Kd.R_after (v := (.slice (some ⟨go18, 0, none⟩) x8_1.length co18)) (v1 := (.slice (some ⟨go18, 0, none⟩) x8_1.length co18)) (ok := (fun _ => True)) (by (with_reducible repeat (first | apply Kd.R_alloc | apply Kd.R_drewN | apply Kd.R_drew)); exact Kd.R_mono HO_7.out (fun _ hk => ⟨trivial, hk⟩)) hg (.inl rfl)); have n1_ := Aside0.mk (hp_); have n2_ := Aside0.mk ((by rw [hw]; exact below_set (HB.out) GB18.out : Below w.heap.size w w24)); clear HO_7; clear HO_8; clear HB; have HO_7 := n0_; have HO_8 := n1_; have HB := n2_; clear n0_ n1_ n2_; clear hg hw hp_))
          go_roundg k1
          case measure => have := HK1.out; omega
          case rel => exact ⟨(y112), (y113), (wrap64 (x9_1 - t108)), (wrap64 (x27_1 + 1)), pbb2_0, pbb2_0, H', ⟨by have := HK1.out; omega⟩, ⟨by (with_reducible repeat (first | apply Kd.R_alloc | apply Kd.R_drewN | apply Kd.R_drew)); exact Kd.R_mono HO_7.out (fun _ hk => hk.2)⟩, ⟨pbb7_6⟩, ⟨pbb2_2⟩⟩
         ·rw [if_neg c17] at H; exact absurd H (by simp)
        ·rw [if_neg c15] at H; exact absurd H (by simp)
       ·rw [if_neg c12] at H; exact absurd H (by simp)
      ·rw [if_neg c11] at H; exact absurd H (by simp)
     ·rw [if_neg c10] at H; have c10b0 : decide (x27_1 < (l2.length : Int)) = false := decide_eq_false c10; clear c10; replace H := Option.bind_eq_some_iff.mp H; obtain ⟨t114, A250, H⟩ := H; replace H : (if 0 ≤ x9_1 then (if x9_1 ≤ (t114.length : Int) then ((some (t114.take (x9_1 : Int).toNat : List Int)).bind fun y117 => (split_divide.l1 k1 x7_1 y117 (y117.length : Int) 0)) else (none)) else (none)) = some r := H; have A25 := Aside0.mk A250; clear A250
      by_cases c26 : 0 ≤ x9_1
      ·rw [if_pos c26] at H; have c26b0 := eq_true c26; have c26b1 : decide (0 ≤ x9_1) = true := decide_eq_true c26; clear c26
       by_cases c27 : x9_1 ≤ (t114.length : Int)
       ·rw [if_pos c27] at H; have c27b0 := eq_true c27; have c27b1 : decide (x9_1 ≤ (t114.length : Int)) = true := decide_eq_true c27; clear c27; obtain ⟨y117, hy117⟩ : ∃ y_ : List Int, y_ = (t114.take (x9_1 : Int).toNat) := ⟨_, rfl⟩; replace H : (split_divide.l1 k1 x7_1 y117 (y117.length : Int) 0) = some r := by first | (rw [hy117]; with_reducible exact H) | (have H2_ := (Option.bind_some _ _).symm.trans H; rw [hy117]; with_reducible exact H2_) | (have H2_ := (Option.bind_some _ _).symm.trans H; with_reducible exact H2_) | with_reducible exact H | (rw [hy117]; exact H) | exact H
        have Ny117 := Aside0.mk hy117; clear hy117; have H' := Aside0.mk H; clear H; obtain ⟨Ao28, co28, eo28⟩ := Kd.R_slice HO_8.out; subst eo28
        go_wp2_with (first | ((with_reducible refine gate_callee (f := 57) rfl ?_); refine goesL_ (some 59) rfl rfl Try.func57 (by kernel_rfl) rfl #[.slice Ao28 x8_1.length co28] rfl pbb3_0 ?_; (with_reducible refine (split_ranked.calls k1 _ _ x8_1 t114 _ ?side1 ?side2 A25.out).mono ?_); (case side1 => repeat (first | exact (Kd.R_reads' HO_8.out).2.2 | (with_reducible refine Kd.C_alloc ?_ _) | (with_reducible refine Kd.C_drewN ?_ _) | (with_reducible refine Kd.C_drew ?_))); (case side2 => exact (Kd.R_reads' HO_8.out).2.1); rintro e w29 ⟨v115, rfl, ho0, hb⟩; refine ⟨_, rfl, ?_⟩; have n0_ := Aside0.mk (Kd.R_elder' pbb7_5 (Kd.R_base ho0) hb); have n1_ := Aside0.mk (Kd.R_elder' pbb7_6 (Kd.R_base ho0) hb); have n2_ := Aside0.mk (Kd.R_lower (Kd.R_new' (Kd.R_new' ho0 (Kd.R_lt pbb7_5)) (Kd.R_lt pbb7_6)) (below_size pbb2_2)); have n3_ := Aside0.mk (below_step pbb2_2 hb); clear HO_7; clear HO_8; clear HB; have HO_7 := n0_; have HO_8 := n1_; have HO116 := n2_; have HB := n3_; clear n0_ n1_ n2_ n3_; (try clear hb); (try clear hb2); (try clear hk); (try clear hi); (try clear ho0); obtain ⟨Ao30, co30, eo30⟩ := Kd.R_slice HO116.out; subst eo30; have q31 : (x9_1 : Int) ≤ ((t114.length : Int) : Int) := of_decide_eq_true pbb4_0; obtain ⟨i031, hi031, _, hsz31, _⟩ := info_parts info3; have hcut31 := cut_to (P := Try.prog) 24 3 .i64 Try.underlying24 hi031 Ao30 t114.length co30 x9_1 (of_decide_eq_true pbb4_0) q31 (Kd.R_reads' HO116.out).2.1; have hr31 := Kd.R_take (m := (x9_1 : Int).toNat) HO116.out (by omega); have hy31 : y117.length = (x9_1 : Int).toNat := (by rw [Ny117.out, List.length_take]; omega); rw [← Ny117.out] at hr31; rw [← hy31] at hr31 hcut31; clear hy31 hi031 hsz31 HO116; have HO119 := Aside0.mk hr31; clear hr31; replace q31 := eq_true q31; (try rw [show (Value.slice Ao30 t114.length co30).ownBlock = (Value.slice Ao30 y117.length co30).ownBlock from by first | rfl | (cases Ao30 <;> rfl)] at HO_7); (try rw [show (Value.slice Ao30 t114.length co30).ownBlock = (Value.slice Ao30 y117.length co30).ownBlock from by first | rfl | (cases Ao30 <;> rfl)] at HO_8)))
        (try simp only [Act.put, List.setIfInBounds_toArray, List.set_cons_zero, List.set_cons_succ])
        go_loopg [63] k1 (fun kq v63 w' => ∃ (x7_2 : List Int) (x63_2 : Int), v63 = .int .i64 x63_2 ∧ Aside0 (split_divide.l1 kq x7_2 y117 (y117.length : Int) x63_2 = some r) ∧ Aside0 (kq ≤ k1) ∧ Aside0 (Kd.R (Kd.int .i64) 3 w' w.heap.size (fun k_ => some k_ ≠ ((.slice Ao30 y117.length co30) : Value).ownBlock) v102 x7_2) ∧ Aside0 (Kd.R (Kd.int .i64) 3 w' w.heap.size (fun k_ => some k_ ≠ (v102 : Value).ownBlock) (.slice Ao30 y117.length co30) y117) ∧ Aside0 (Below w.heap.size w w'))
        case atStart => exact ⟨(x7_1), (0), pbb2_0, H', ⟨Nat.le_refl _⟩, ⟨by (with_reducible repeat (first | apply Kd.R_alloc | apply Kd.R_drewN | apply Kd.R_drew)); exact Kd.R_mono HO_7.out (fun _ hk => hk.2)⟩, ⟨by (with_reducible repeat (first | apply Kd.R_alloc | apply Kd.R_drewN | apply Kd.R_drew)); exact Kd.R_mono HO119.out (fun _ hk => hk.1.2)⟩, ⟨pbb2_2⟩⟩
        case round =>
         clear H'; (try clear c1); (try clear p1); (try clear q1); (try clear hx1); (try clear c2); (try clear p2); (try clear c3); (try clear q3); (try clear c4); (try clear c4b0); (try clear c4b1); (try clear c5); (try clear c5b0); (try clear c5b1); (try clear p6); (try clear c10); (try clear c10b0); (try clear p10); (try clear q10); (try clear hx10); (try clear c11); (try clear c11b0); (try clear c12); (try clear c12b0); (try clear c15); (try clear c15b0); (try clear p16); (try clear q16); (try clear hx16); (try clear hf16); (try clear c17); (try clear c17b0); (try clear p18); (try clear q18); (try clear hx18); (try clear hf18); (try clear c26); (try clear c26b0); (try clear c26b1); (try clear c27); (try clear c27b0); (try clear c27b1); (try clear q31); (try clear hx107_0); (try clear hx16_0); (try clear hx18_0); (try clear p107); (try clear p16); (try clear p18); (try clear p2); (try clear q107); (try clear q16); (try clear q18); (try clear q31); obtain ⟨x7_2, x63_2, rfl, HA, HK2, HO_7, HO_61, HB⟩ := hrel
         cases gk with
         | zero => exact absurd HA.out (by simp [split_divide.l1])
         | succ k2 =>
          have H := HA.out; clear HA; simp only [split_divide.l1] at H
          by_cases c32 : x63_2 < (y117.length : Int)
          ·rw [if_pos c32] at H; have c32b0 : decide (x63_2 < (y117.length : Int)) = true := decide_eq_true c32; clear c32
           by_cases c33 : 0 ≤ x63_2
           ·rw [if_pos c33] at H; have c33b0 : decide (0 ≤ x63_2) = true := decide_eq_true c33; clear c33
            by_cases c34 : x63_2 < (y117.length : Int)
            ·rw [if_pos c34] at H; have c34b0 : decide (x63_2 < (y117.length : Int)) = true := decide_eq_true c34; clear c34
             by_cases c35 : 0 ≤ (rd y117 x63_2)
             ·rw [if_pos c35] at H; have c35b0 : decide (0 ≤ (rd y117 x63_2)) = true := decide_eq_true c35; clear c35
              by_cases c36 : (rd y117 x63_2) < (x7_2.length : Int)
              ·rw [if_pos c36] at H; have c36b0 : decide ((rd y117 x63_2) < (x7_2.length : Int)) = true := decide_eq_true c36; clear c36; obtain ⟨y122, hy122⟩ : ∃ y_ : List Int, y_ = (x7_2.set ((rd y117 x63_2) : Int).toNat (wrap64 ((rd x7_2 (rd y117 x63_2)) + 1))) := ⟨_, rfl⟩; replace H : (split_divide.l1 k2 y122 y117 (y117.length : Int) (wrap64 (x63_2 + 1))) = some r := by first | (rw [hy122]; with_reducible exact H) | (have H2_ := (Option.bind_some _ _).symm.trans H; rw [hy122]; with_reducible exact H2_) | (have H2_ := (Option.bind_some _ _).symm.trans H; with_reducible exact H2_) | with_reducible exact H | (rw [hy122]; exact H) | exact H
               have Ny122 := Aside0.mk hy122; clear hy122; have H' := Aside0.mk H; clear H; have p120 : 0 ≤ (x63_2 : Int) := of_decide_eq_true pbb4_0; have q120 : x63_2 < (y117.length : Int) := of_decide_eq_true pbb4_0; obtain ⟨ad120, e120, hx120_0⟩ := Kd.at_int (Kd.R_reads' HO_61.out).2.2 x63_2 p120 q120
               cases e120
               replace p120 := eq_true p120; replace q120 := eq_true q120; obtain ⟨Ao38, co38, eo38⟩ := Kd.R_slice HO_7.out; subst eo38; have p121 : 0 ≤ ((rd y117 x63_2) : Int) := of_decide_eq_true pbb4_0; have q121 : (rd y117 x63_2) < (x7_2.length : Int) := of_decide_eq_true pbb4_0; obtain ⟨ad121, e121, hx121_0⟩ := Kd.at_int (Kd.R_reads' HO_7.out).2.2 (rd y117 x63_2) p121 q121
               cases e121
               replace p121 := eq_true p121; replace q121 := eq_true q121; have p37 : 0 ≤ ((rd y117 x63_2) : Int) := of_decide_eq_true pbb4_0; have q37 : ((rd y117 x63_2) : Int) < ((x7_2.length : Int) : Int) := of_decide_eq_true pbb4_0; obtain ⟨go37, co37, eo37, gb37, gl37, cl37, HG37⟩ := Kd.R_form HO_7.out (by omega); (first | cases eo37 | (injection eo37 with ea_ en_ ec_; (first | subst ea_ | (injection ea_ with ea_; subst ea_)); subst ec_; clear en_)); have GB37 := Aside0.mk gb37; have GG37 := Aside0.mk HG37; clear gb37 gl37 HG37; (first | simp only [add_plain] at hx121_0 | skip); obtain ⟨hx37_0, hf37_0⟩ := Kd.R_celln 0 HO_7.out ((rd y117 x63_2) : Int) p37 q37; replace p37 := eq_true p37; replace q37 := eq_true q37; have HP39 := Kd.R_putg HO_7.out ((rd y117 x63_2) : Int) (wrap64 ((rd x7_2 (rd y117 x63_2)) + 1))
               go_wp2_with (first | ((with_reducible refine gate_store (t := 3) (p := 72) rfl ?_); refine store_event (t := 3) (p := 72) (v := ?vo_w40) (w1 := (wr.setCell ⟨go37, ((rd y117 x63_2) : Int).toNat, none⟩ (.int .i64 (wrap64 ((rd x7_2 (rd y117 x63_2)) + 1))))) ?hg ?ho ?hn ?hr ?_; (case ho => rfl); (case hg => rfl); (case hn => rfl); (case hr => first | (go_simp; done) | (go_simp; rfl)); intro w40 hw; have hg : wr.grownBy w40 (some go37) := (by rw [hw]; exact HP39.2); have hp_ : Kd.R (Kd.int .i64) 3 w40 w.heap.size (fun k_ => some k_ ≠ (.slice (some ad120) y117.length co30 : Value).ownBlock) (.slice (some ⟨go37, 0, none⟩) x7_2.length co38) y122 := (by rw [hw, Ny122.out]; exact HP39.1); clear HP39; have n0_ := Aside0.mk (hp_); have n1_ := Aside0.mk (Kd.R_after (v := (.slice (some ⟨go37, 0, none⟩) x7_2.length co38)) (v1 := (.slice (some ⟨go37, 0, none⟩) x7_2.length co38)) (ok := (fun _ => True)) (by (with_reducible repeat (first | apply Kd.R_alloc | apply Kd.R_drewN | apply Kd.R_drew)); exact Kd.R_mono HO_61.out (fun _ hk => ⟨trivial, hk⟩)) hg (.inl rfl)); have n2_ := Aside0.mk ((by rw [hw]; exact below_set (HB.out) GB37.out : Below w.heap.size w w40)); clear HO_7; clear HO_61; clear HB; have HO_7 := n0_; have HO_61 := n1_; have HB := n2_; clear n0_ n1_ n2_; clear hg hw hp_))
               go_roundg k2
               case measure => have := HK1.out; have := HK2.out; omega
               case rel => exact ⟨(y122), (wrap64 (x63_2 + 1)), pbb2_0, H', ⟨by have := HK1.out; have := HK2.out; omega⟩, ⟨pbb7_5⟩, ⟨by (with_reducible repeat (first | apply Kd.R_alloc | apply Kd.R_drewN | apply Kd.R_drew)); exact Kd.R_mono HO_61.out (fun _ hk => hk.2)⟩, ⟨pbb2_2⟩⟩
              ·rw [if_neg c36] at H; exact absurd H (by simp)
             ·rw [if_neg c35] at H; exact absurd H (by simp)
            ·rw [if_neg c34] at H; exact absurd H (by simp)
           ·rw [if_neg c33] at H; exact absurd H (by simp)
          ·rw [if_neg c32] at H; have c32b0 : decide (x63_2 < (y117.length : Int)) = false := decide_eq_false c32; clear c32; obtain rfl := Option.some.inj H
           go_wp2
           go_ret
           exact ⟨_, pbb2_6, by (with_reducible repeat (first | apply Kd.R_alloc | apply Kd.R_drewN | apply Kd.R_drew)); exact Kd.R_mono HO_7.out (fun _ hk => trivial), pbb2_2⟩
       ·rw [if_neg c27] at H; exact absurd H (by simp)
      ·rw [if_neg c26] at H; exact absurd H (by simp)
  ·rw [if_neg c5] at H; exact absurd H (by simp)
 ·rw [if_neg c4] at H; exact absurd H (by simp)
end Go.Proofs.Ytadognlkefhoiaa.M
end
