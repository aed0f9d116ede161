/- What the claims of this seat share, part 3 of 9: what the program's functions compute. -/
import Derived.Test.YtadognlkefhoiaaQBB2
import Derived.Test.YtadognlkefhoiaaQBB1
namespace Go.Proofs.Ytadognlkefhoiaa.M
theorem cbb3_0 {p : Prop} (h : p := by simp only [Act.put, List.setIfInBounds_toArray, List.set_cons_zero, List.set_cons_succ, i64_w, i32_w]; rfl) : p := h
theorem pbb3_0 {p : Prop} (h : p := by (try simp only [List.map_toArray, List.map_cons, List.map_nil]); first | done | rfl | (simp only [List.length_drop, List.length_take]; rfl)) : p := h
theorem pbb3_1 {p : Prop} (h : p := by rw [← hq_]; exact (by repeat (first | (with_reducible first | exact HB.out | apply below_alloc | apply pw_below_drewN | apply below_drew1) | exact HB.out))) : p := h
theorem pbb3_2 {p : Prop} (h : p := by repeat (first | (with_reducible first | exact HB.out | apply below_alloc | apply pw_below_drewN | apply below_drew1 | refine below_set ?_ GE105.out) | exact HB.out)) : p := h
theorem pbb3_3 {p : Prop} (h : p := by (with_reducible repeat (first | refine blk_drewN ?_ _ | refine blk_drew ?_ | refine blk_alloc ?_ _)); exact BK105.out) : p := h
theorem pbb3_4 {p : Prop} (h : p := by rw [hg]; exact (below_size (by repeat (first | (with_reducible first | exact HB.out | apply below_alloc | apply pw_below_drewN | apply below_drew1 | refine below_set ?_ GE105.out) | exact HB.out)))) : p := h
theorem pbb3_5 {p : Prop} (h : p := by rw [hg]; exact Nat.ne_of_lt (blk_lt (g := gb105) (o := .cells #[.int .u64 t103, .int .u64 t104] 63 (0, 0)) (by (with_reducible repeat (first | refine blk_drewN ?_ _ | refine blk_drew ?_ | refine blk_alloc ?_ _)); exact BK105.out))) : p := h
theorem pbb3_6 {p : Prop} (h : p := by rw [hg]; exact Nat.ne_of_gt (blk_lt (g := gb105) (o := .cells #[.int .u64 t103, .int .u64 t104] 63 (0, 0)) (by (with_reducible repeat (first | refine blk_drewN ?_ _ | refine blk_drew ?_ | refine blk_alloc ?_ _)); exact BK105.out))) : p := h
theorem pbb3_7 {p : Prop} (h : p := by simp only [putAll, Act.put, List.setIfInBounds_toArray, List.set_cons_zero, List.set_cons_succ]) : p := h
theorem pbb3_8 {p : Prop} (h : p := by (with_reducible repeat (first | refine blk_drewN ?_ _ | refine blk_drew ?_ | refine blk_alloc ?_ _)); exact BK110.out) : p := h
theorem pbb3_9 {p : Prop} (h : p := by repeat (first | (with_reducible first | exact HB.out | apply below_alloc | apply pw_below_drewN | apply below_drew1 | refine below_set ?_ GE105.out | refine below_set ?_ GE110.out) | exact HB.out)) : p := h
theorem pbb3_10 {p : Prop} (h : p := by repeat (first | (with_reducible first | exact HB.out | apply below_alloc | apply pw_below_drewN | apply below_drew1 | refine below_set ?_ GE109.out) | exact HB.out)) : p := h
def abb3_0 : Array Bool := #[false, false, false, false, false, false, false, false, false, false]
def abb3_1 : Array Bool := #[false, true, false, false, false, false, false, false, false, false]
def abb3_2 : Array Bool := #[true, true, false, false, false, false, false, false, false, false]
def abb3_3 : Array Bool := #[true, true, true, false, false, false, false, false, false, false]
def abb3_4 : Array Bool := #[true, true, false, false, false, false, false, true, false, false]
def abb3_5 : Array Bool := #[true, true, true, true, false, false, false, false, false, false]
def abb3_6 : Array Bool := #[true, true, true, false, false, false, false, true, false, false]
def abb3_7 : Array Bool := #[true, true, true, true, true, false, false, false, false, false]
def abb3_8 : Array Bool := #[true, true, true, true, false, false, false, true, false, false]
def abb3_9 : Array Bool := #[true, true, true, true, true, true, false, false, false, false]
def abb3_10 : Array Bool := #[true, true, true, true, true, false, false, true, false, false]
def abb3_11 : Array Bool := #[true, true, true, true, true, true, true, false, false, false]
def abb3_12 : Array Bool := #[true, true, true, true, true, true, false, true, false, false]
def abb3_13 : Array Bool := #[true, true, true, true, true, true, true, true, false, false]
def abb3_14 : Array Bool := #[true, true, true, true, true, true, true, true, true, false]
def abb3_15 : Array Bool := #[true, true, true, true, true, true, true, true, true, true]
end Go.Proofs.Ytadognlkefhoiaa.M
section
namespace Go.Proofs.Ytadognlkefhoiaa.M
open Go.RowKit Go.Proofs.YtadognlkefhoiaaW.PrintWords Go.Proofs.YtadognlkefhoiaaW.PrintLast Go.Proofs.YtadognlkefhoiaaW.PrintMore
attribute [local go_sem] max2_int min2_int max_two min_two max_three min_three max_four min_four
set_option linter.unusedVariables false
set_option linter.unusedSimpArgs false
attribute [local go_sem high] eqA63
mutual
def muldiv_MulDiv.j0 : Nat → Int → Int → Int → Int → Bool → Option (Int × Int)
  | 0, _, _, _, _, _ => none
  | k + 1, x0, x1, x2, x3, x20 => if x20 = true then (some (0, 10)) else (if x2 = 0 then (some (0, 2)) else ((muldiv_magnitude.f x0).bind fun t101 => ((muldiv_magnitude.f x1).bind fun t102 => ((muldiv_multiply.f t101 t102).bind fun bt103 => (if (!(bt103.1 == 0) || (!(bt103.2 == 0))) = true then (muldiv_MulDiv.j1 k x2 x3 (((decide (x0 < 0)) != (decide (x1 < 0))) != (decide (x2 < 0))) bt103.1 bt103.2) else (muldiv_MulDiv.j1 k x2 x3 false bt103.1 bt103.2))))))
def muldiv_MulDiv.j1 : Nat → Int → Int → Bool → Int → Int → Option (Int × Int)
  | 0, _, _, _, _, _ => none
  | k + 1, x2, x3, x11, x106000, x106001 => (muldiv_magnitude.f x2).bind fun t106 => ((muldiv_divide.f x106000 x106001 t106).bind fun bt107 => (if bt107.1 = 0 then ((muldiv_magnitude.f x2).bind fun t111 => ((muldiv_away.f x3 x11 ((Int.tmod bt107.2.1 2) == 1) bt107.2.2 t111).bind fun t112 => (if t112 = true then (if (IntKind.u64.wrap (bt107.2.1 + 1)) = 0 then (some (0, 4)) else ((muldiv_signed.f x11 (IntKind.u64.wrap (bt107.2.1 + 1))).bind fun bt113 => (some (bt113.1, bt113.2)))) else ((muldiv_signed.f x11 bt107.2.1).bind fun bt115 => (some (bt115.1, bt115.2)))))) else (some (0, 4))))
end
def muldiv_MulDiv.f (k : Nat) (a0 : Int) (a1 : Int) (a2 : Int) (a3 : Int) : Option (Int × Int) := if a3 < 1 then (muldiv_MulDiv.j0 k a0 a1 a2 a3 true) else (muldiv_MulDiv.j0 k a0 a1 a2 a3 (decide (a3 > 5)))
theorem muldiv_MulDiv.mono_l : ∀ k, (∀ y0 y1 y2 y3 y4, LeO (muldiv_MulDiv.j0 k y0 y1 y2 y3 y4) (muldiv_MulDiv.j0 (k + 1) y0 y1 y2 y3 y4)) ∧ (∀ y0 y1 y2 y3 y4, LeO (muldiv_MulDiv.j1 k y0 y1 y2 y3 y4) (muldiv_MulDiv.j1 (k + 1) y0 y1 y2 y3 y4))
  | 0 => ⟨fun _ _ _ _ _ r h => by simp [muldiv_MulDiv.j0] at h, fun _ _ _ _ _ r h => by simp [muldiv_MulDiv.j1] at h⟩
  | k + 1 => by
    obtain ⟨ih0, ih1⟩ := muldiv_MulDiv.mono_l k; refine ⟨?_, ?_⟩
    · intro y0 y1 y2 y3 y4
      unfold muldiv_MulDiv.j0
      repeat' first
      | (with_reducible exact ih0 _ _ _ _ _)
      | (with_reducible exact ih1 _ _ _ _ _)
      | (with_reducible exact LeO.refl _)
      | (with_reducible exact LeO.none _)
      | (with_reducible refine LeO.ite ?_ ?_)
      | (with_reducible refine LeO.bind ?_ (fun _ => ?_))
      | exact ih0 _ _ _ _ _
      | exact ih1 _ _ _ _ _
      | exact LeO.none _
      | refine LeO.ite ?_ ?_
      | refine LeO.bind ?_ (fun _ => ?_)
    · intro y0 y1 y2 y3 y4
      unfold muldiv_MulDiv.j1
      repeat' first
      | (with_reducible exact ih0 _ _ _ _ _)
      | (with_reducible exact ih1 _ _ _ _ _)
      | (with_reducible exact LeO.refl _)
      | (with_reducible exact LeO.none _)
      | (with_reducible refine LeO.ite ?_ ?_)
      | (with_reducible refine LeO.bind ?_ (fun _ => ?_))
      | exact ih0 _ _ _ _ _
      | exact ih1 _ _ _ _ _
      | exact LeO.none _
      | refine LeO.ite ?_ ?_
      | refine LeO.bind ?_ (fun _ => ?_)
theorem muldiv_MulDiv.mono : ∀ a0 a1 a2 a3 k, LeO (muldiv_MulDiv.f k a0 a1 a2 a3) (muldiv_MulDiv.f (k + 1) a0 a1 a2 a3) := by
 intro a0 a1 a2 a3 k; obtain ⟨ih0, ih1⟩ := muldiv_MulDiv.mono_l k
 unfold muldiv_MulDiv.f
 repeat' first
   | (with_reducible exact ih0 _ _ _ _ _)
   | (with_reducible exact ih1 _ _ _ _ _)
   | (with_reducible exact LeO.refl _)
   | (with_reducible exact LeO.none _)
   | (with_reducible refine LeO.ite ?_ ?_)
   | (with_reducible refine LeO.bind ?_ (fun _ => ?_))
   | exact ih0 _ _ _ _ _
   | exact ih1 _ _ _ _ _
   | exact LeO.none _
   | refine LeO.ite ?_ ?_
   | refine LeO.bind ?_ (fun _ => ?_)
def muldiv_MulDiv.T7 : Bool × List (List Nat × List Nat) := (true, [([], []), ([], []), ([1], [1]), ([0, 2, 2], [0, 2]), ([3], [3]), ([4], [4]), ([4], [4]), ([], []), ([7, 5, 3, 0, 1, 2, 3, 4, 5, 7], [5, 7]), ([6, 8, 0, 1, 2, 3, 4, 5, 6, 7, 8], [6])])
def muldiv_MulDiv.B7 : List Nat := [0, 0, 2, 7, 15, 31, 31, 0, 191, 511]
theorem muldiv_MulDiv.tab7 : rtab .any (opsOf Try.f34 7) = muldiv_MulDiv.T7 := by kernel_rfl
theorem muldiv_MulDiv.bits7 : waitsOk muldiv_MulDiv.T7.2 muldiv_MulDiv.B7 = true := by kernel_rfl
set_option maxHeartbeats 8000000 in
set_option maxRecDepth 100000 in
theorem muldiv_MulDiv.calls (k : Nat) (a0 : Int) (a1 : Int) (a2 : Int) (a3 : Int) (r1 : Int) (r2 : Int) (w : World) (h : muldiv_MulDiv.f k a0 a1 a2 a3 = some (r1, r2)) :
    Calls Try.prog 34 #[.int .i64 a0, .int .i64 a1, .int .i64 a2, .int .i64 a3] w fun e w' => e = .returned (.tuple #[.int .i64 r1, .int .i64 r2]) ∧ Below w.heap.size w w' := by
 have hu63 := Try.underlying63; have hu52 := Try.underlying52; have HB := Aside0.mk (Below.refl w.heap.size w); have H : (if a3 < 1 then (muldiv_MulDiv.j0 k a0 a1 a2 a3 true) else (muldiv_MulDiv.j0 k a0 a1 a2 a3 (decide (a3 > 5)))) = some (r1, r2) := h; clear h; have HC5 := Aside0.mk H; clear H; go_enter Try.func34, Try.ntmps34
 go_upto_region 1 with (fail)
 go_cut [20] (fun v20 wc => ∃ (kq : Nat) (x20_4 : Bool), v20 = .bool x20_4 ∧ Aside0 (muldiv_MulDiv.j0 kq a0 a1 a2 a3 x20_4 = some (r1, r2)) ∧ Aside0 (kq ≤ k) ∧ Aside0 (Below w.heap.size w wc))
 case first =>
  have H := HC5.out; clear HC5
  by_cases c6 : a3 < 1
  ·rw [if_pos c6] at H; have c6b0 : decide (a3 < 1) = true := decide_eq_true c6; clear c6; (first | rw [c6b0] | (simp only [i64_w, i32_w]; rw [c6b0]) | skip); have H' := Aside0.mk H; clear H
   go_wp2
   go_meet
   case rel => exact ⟨_, (true), pbb2_0, H', ⟨by first | omega | exact Nat.le_refl _⟩, ⟨pbb2_2⟩⟩
  ·rw [if_neg c6] at H; have c6b0 : decide (a3 < 1) = false := decide_eq_false c6; clear c6; (first | rw [c6b0] | (simp only [i64_w, i32_w]; rw [c6b0]) | skip); have H' := Aside0.mk H; clear H
   go_wp2
   go_meet
   case rel => exact ⟨_, (decide (a3 > 5)), pbb2_0, H', ⟨by first | omega | exact Nat.le_refl _⟩, ⟨pbb2_2⟩⟩
 case rest =>
  as_aux_lemma =>
   clear HC5; (try clear p2); (try clear c3); (try clear c6); (try clear c6b0); obtain ⟨kq, x20_4, rfl, HA, HJ4, HB⟩ := hcut
   cases kq with
   | zero => exact absurd HA.out (by simp [muldiv_MulDiv.j0])
   | succ kj4 =>
    have H := HA.out; clear HA; simp only [muldiv_MulDiv.j0] at H
    by_cases c7 : x20_4 = true
    ·subst c7; have H1 : (some (0, 10)) = some (r1, r2) := by rw [if_pos rfl] at H; exact H
     clear H; have H := H1; clear H1; simp only [Option.some.injEq, Prod.mk.injEq] at H; obtain ⟨rfl, rfl⟩ := H
     go_wp2
     go_ret2
     exact ⟨pbb2_6, pbb2_2⟩
    ·replace c7 := Bool.eq_false_iff.mpr c7; subst c7; have H1 : (if a2 = 0 then (some (0, 2)) else ((muldiv_magnitude.f a0).bind fun t101 => ((muldiv_magnitude.f a1).bind fun t102 => ((muldiv_multiply.f t101 t102).bind fun bt103 => (if (!(bt103.1 == 0) || (!(bt103.2 == 0))) = true then (muldiv_MulDiv.j1 kj4 a2 a3 (((decide (a0 < 0)) != (decide (a1 < 0))) != (decide (a2 < 0))) bt103.1 bt103.2) else (muldiv_MulDiv.j1 kj4 a2 a3 false bt103.1 bt103.2)))))) = some (r1, r2) := by rw [if_neg (show ¬ (false = true) by decide)] at H; exact H
     clear H; have H := H1; clear H1
     by_cases c8 : a2 = 0
     ·rw [if_pos c8] at H; have c8b0 : (a2 == 0) = true := beq_iff_eq.mpr c8; have c8b1 : (a2 != 0) = false := bne_eq_false_iff_eq.mpr c8; clear c8; simp only [Option.some.injEq, Prod.mk.injEq] at H; obtain ⟨rfl, rfl⟩ := H
      go_wp2
      go_ret2
      exact ⟨pbb2_6, pbb2_2⟩
     ·rw [if_neg c8] at H; have c8b0 : (a2 == 0) = false := beq_eq_false_iff_ne.mpr c8; have c8b1 : (a2 != 0) = true := bne_iff_ne.mpr c8; replace H := Option.bind_eq_some_iff.mp H; obtain ⟨t101, A90, H⟩ := H; replace H : ((muldiv_magnitude.f a1).bind fun t102 => ((muldiv_multiply.f t101 t102).bind fun bt103 => (if (!(bt103.1 == 0) || (!(bt103.2 == 0))) = true then (muldiv_MulDiv.j1 kj4 a2 a3 (((decide (a0 < 0)) != (decide (a1 < 0))) != (decide (a2 < 0))) bt103.1 bt103.2) else (muldiv_MulDiv.j1 kj4 a2 a3 false bt103.1 bt103.2)))) = some (r1, r2) := H; have A9 := Aside0.mk A90; clear A90; replace H := Option.bind_eq_some_iff.mp H; obtain ⟨t102, A100, H⟩ := H; replace H : ((muldiv_multiply.f t101 t102).bind fun bt103 => (if (!(bt103.1 == 0) || (!(bt103.2 == 0))) = true then (muldiv_MulDiv.j1 kj4 a2 a3 (((decide (a0 < 0)) != (decide (a1 < 0))) != (decide (a2 < 0))) bt103.1 bt103.2) else (muldiv_MulDiv.j1 kj4 a2 a3 false bt103.1 bt103.2))) = some (r1, r2) := H; have A10 := Aside0.mk A100; clear A100; replace H := Option.bind_eq_some_iff.mp H; obtain ⟨⟨t103, t104⟩, A110, H⟩ := H; replace H : (if (!(t103 == 0) || (!(t104 == 0))) = true then (muldiv_MulDiv.j1 kj4 a2 a3 (((decide (a0 < 0)) != (decide (a1 < 0))) != (decide (a2 < 0))) t103 t104) else (muldiv_MulDiv.j1 kj4 a2 a3 false t103 t104)) = some (r1, r2) := H; have A11 := Aside0.mk A110; clear A110; have HC12 := Aside0.mk H; clear H
      go_upto_region 6 with (first | ((with_reducible refine gate_callee (f := 44) rfl ?_); refine goesL_ (some 24) rfl rfl Try.func44 (by kernel_rfl) rfl #[.int .i64 a0] rfl pbb3_0 ?_; (with_reducible refine (muldiv_magnitude.calls a0 t101 _ A9.out).mono ?_); rintro e w' ⟨rfl, ⟨nd, rfl⟩⟩; refine ⟨_, rfl, ?_⟩; (try (rw [drewN_self wc]; generalize hq_ : World.drewN wc _ = wc; have n0_ : Aside0 (Below w.heap.size w wc) := ⟨pbb3_1⟩; clear HB hq_; have HB := n0_; clear n0_))) | ((with_reducible refine gate_callee (f := 44) rfl ?_); refine goesL_ (some 26) rfl rfl Try.func44 (by kernel_rfl) rfl #[.int .i64 a1] rfl pbb3_0 ?_; (with_reducible refine (muldiv_magnitude.calls a1 t102 _ A10.out).mono ?_); rintro e w' ⟨rfl, ⟨nd, rfl⟩⟩; refine ⟨_, rfl, ?_⟩; (try (rw [drewN_self wc]; generalize hq_ : World.drewN wc _ = wc; have n0_ : Aside0 (Below w.heap.size w wc) := ⟨pbb3_1⟩; clear HB hq_; have HB := n0_; clear n0_))) | ((with_reducible refine gate_callee (f := 43) rfl ?_); refine goesL_ (some 27) rfl rfl Try.func43 (by kernel_rfl) rfl #[.int .u64 t101, .int .u64 t102] rfl pbb3_0 ?_; (with_reducible refine (muldiv_multiply.calls t101 t102 t103 t104 _ A11.out).mono ?_); rintro e w13 ⟨rfl, hb⟩; refine ⟨_, rfl, ?_⟩; have n0_ := Aside0.mk (below_step pbb2_2 hb); clear HB; have HB := n0_; clear n0_; (try clear hb); (try clear hb2); (try clear hk); (try clear hi)) | ((with_reducible refine gate_dst (N := 10) rfl ?_); refine box_event ?hg (N := 10) ?hd (cs := #[.int .u64 0, .int .u64 0]) (t := 63) ?hr ?_; (case hd => rfl); (case hg => rfl); (case hr => first | (go_simp; done) | (go_simp; rfl)); intro gb105 hg w14 hbox hb; have n0_ := Aside0.mk (below_step pbb2_2 hb); have n1_ := Aside0.mk (hbox); have n2_ := Aside0.mk ((pbb2_3 : w.heap.size ≤ gb105)); have n3_ := Aside0.mk ((pbb2_3 : w.heap.size ≤ gb105)); clear HB; have HB := n0_; have BK105 := n1_; have GW105 := n2_; have GE105 := n3_; clear n0_ n1_ n2_ n3_; clear hb hbox hg; have hcz15_0 : w14.cell? ⟨gb105, 0, none⟩ = some (.int .u64 0) := (blk_cell BK105.out 0).trans rfl; have hcz15_1 : w14.cell? ⟨gb105, 1, none⟩ = some (.int .u64 0) := (blk_cell BK105.out 1).trans rfl; have hfz15_0 := blk_frozen BK105.out 0; have hfz15_1 := blk_frozen BK105.out 1))
      (try simp only [Act.put, List.setIfInBounds_toArray, List.set_cons_zero, List.set_cons_succ])
      go_cut [11] (fun v11 wc => ∃ (kq : Nat) (x11_11 : Bool), v11 = .bool x11_11 ∧ Aside0 (muldiv_MulDiv.j1 kq a2 a3 x11_11 t103 t104 = some (r1, r2)) ∧ Aside0 (kq ≤ kj4) ∧ Aside0 (wc.heap[gb105]? = some (.cells #[.int .u64 t103, .int .u64 t104] 63 (0, 0))) ∧ Aside0 (Below w.heap.size w wc))
      case first =>
       have H := HC12.out; clear HC12
       by_cases c16 : (!(t103 == 0) || (!(t104 == 0))) = true
       ·rw [if_pos c16] at H; have c16b0 : (!(t103 == 0) || (!(t104 == 0))) = true := c16; clear c16; (first | rw [c16b0] | (simp only [i64_w, i32_w]; rw [c16b0]) | skip); have H' := Aside0.mk H; clear H; have hcz17_0 : w14.cell? ⟨gb105, 0, none⟩ = some (.int .u64 0) := (blk_cell BK105.out 0).trans rfl; have hcz17_1 : w14.cell? ⟨gb105, 1, none⟩ = some (.int .u64 0) := (blk_cell BK105.out 1).trans rfl; have hfz17_0 := blk_frozen BK105.out 0; have hfz17_1 := blk_frozen BK105.out 1
        go_wp2
        go_meet
        case rel => exact ⟨_, ((((decide (a0 < 0)) != (decide (a1 < 0))) != (decide (a2 < 0)))), (by first | rfl | (simp; done) | (simp [*]; done) | (congr 1; generalize decide (a0 < 0) = q0_; generalize decide (a1 < 0) = q1_; generalize decide (a2 < 0) = q2_; revert q0_ q1_ q2_; decide)), H', ⟨by have := HJ4.out; first | omega | exact Nat.le_refl _⟩, ⟨by (with_reducible repeat (first | refine blk_drewN ?_ _ | refine blk_drew ?_ | refine blk_alloc ?_ _)); refine blk_put (cs := #[.int .u64 t103, .int .u64 0]) ?_ 1 _ rfl; (with_reducible repeat (first | refine blk_drewN ?_ _ | refine blk_drew ?_ | refine blk_alloc ?_ _)); refine blk_put (cs := #[.int .u64 0, .int .u64 0]) ?_ 0 _ rfl; (with_reducible repeat (first | refine blk_drewN ?_ _ | refine blk_drew ?_ | refine blk_alloc ?_ _)); exact BK105.out⟩, ⟨pbb3_2⟩⟩
       ·rw [if_neg c16] at H; have c16b0 : (!(t103 == 0) || (!(t104 == 0))) = false := by simpa using c16
        clear c16; (first | rw [c16b0] | (simp only [i64_w, i32_w]; rw [c16b0]) | skip); have H' := Aside0.mk H; clear H; have hcz18_0 : w14.cell? ⟨gb105, 0, none⟩ = some (.int .u64 0) := (blk_cell BK105.out 0).trans rfl; have hcz18_1 : w14.cell? ⟨gb105, 1, none⟩ = some (.int .u64 0) := (blk_cell BK105.out 1).trans rfl; have hfz18_0 := blk_frozen BK105.out 0; have hfz18_1 := blk_frozen BK105.out 1
        go_wp2
        go_meet
        case rel => exact ⟨_, (false), pbb2_0, H', ⟨by have := HJ4.out; first | omega | exact Nat.le_refl _⟩, ⟨by (with_reducible repeat (first | refine blk_drewN ?_ _ | refine blk_drew ?_ | refine blk_alloc ?_ _)); refine blk_put (cs := #[.int .u64 t103, .int .u64 0]) ?_ 1 _ rfl; (with_reducible repeat (first | refine blk_drewN ?_ _ | refine blk_drew ?_ | refine blk_alloc ?_ _)); refine blk_put (cs := #[.int .u64 0, .int .u64 0]) ?_ 0 _ rfl; (with_reducible repeat (first | refine blk_drewN ?_ _ | refine blk_drew ?_ | refine blk_alloc ?_ _)); exact BK105.out⟩, ⟨pbb3_2⟩⟩
      case rest =>
       as_aux_lemma =>
        clear HC12; (try clear c1); (try clear p2); (try clear c3); (try clear c4); (try clear c6); (try clear c6b0); (try clear c7); (try clear c8); (try clear c8b0); (try clear c8b1); (try clear c16); (try clear c16b0); (try clear hcz15_0); (try clear hcz15_1); (try clear hcz17_0); (try clear hcz17_1); (try clear hcz18_0); (try clear hcz18_1); (try clear hfz15_0); (try clear hfz15_1); (try clear hfz17_0); (try clear hfz17_1); (try clear hfz18_0); (try clear hfz18_1); (try clear p2); obtain ⟨kq, x11_11, rfl, HA, HJ11, BK105, HB⟩ := hcut
        cases kq with
        | zero => exact absurd HA.out (by simp [muldiv_MulDiv.j1])
        | succ kj11 =>
         have H := HA.out; clear HA; simp only [muldiv_MulDiv.j1] at H; replace H := Option.bind_eq_some_iff.mp H; obtain ⟨t106, A190, H⟩ := H; replace H : ((muldiv_divide.f t103 t104 t106).bind fun bt107 => (if bt107.1 = 0 then ((muldiv_magnitude.f a2).bind fun t111 => ((muldiv_away.f a3 x11_11 ((Int.tmod bt107.2.1 2) == 1) bt107.2.2 t111).bind fun t112 => (if t112 = true then (if (IntKind.u64.wrap (bt107.2.1 + 1)) = 0 then (some (0, 4)) else ((muldiv_signed.f x11_11 (IntKind.u64.wrap (bt107.2.1 + 1))).bind fun bt113 => (some (bt113.1, bt113.2)))) else ((muldiv_signed.f x11_11 bt107.2.1).bind fun bt115 => (some (bt115.1, bt115.2)))))) else (some (0, 4)))) = some (r1, r2) := H; have A19 := Aside0.mk A190; clear A190; replace H := Option.bind_eq_some_iff.mp H; obtain ⟨⟨t107, t108, t109⟩, A200, H⟩ := H; replace H : (if t107 = 0 then ((muldiv_magnitude.f a2).bind fun t111 => ((muldiv_away.f a3 x11_11 ((Int.tmod t108 2) == 1) t109 t111).bind fun t112 => (if t112 = true then (if (IntKind.u64.wrap (t108 + 1)) = 0 then (some (0, 4)) else ((muldiv_signed.f x11_11 (IntKind.u64.wrap (t108 + 1))).bind fun bt113 => (some (bt113.1, bt113.2)))) else ((muldiv_signed.f x11_11 t108).bind fun bt115 => (some (bt115.1, bt115.2)))))) else (some (0, 4))) = some (r1, r2) := H; have A20 := Aside0.mk A200; clear A200
         by_cases c21 : t107 = 0
         ·rw [if_pos c21] at H; have c21b0 : (t107 == 0) = true := beq_iff_eq.mpr c21; have c21b1 : (t107 != 0) = false := bne_eq_false_iff_eq.mpr c21; clear c21; replace H := Option.bind_eq_some_iff.mp H; obtain ⟨t111, A220, H⟩ := H; replace H : ((muldiv_away.f a3 x11_11 ((Int.tmod t108 2) == 1) t109 t111).bind fun t112 => (if t112 = true then (if (IntKind.u64.wrap (t108 + 1)) = 0 then (some (0, 4)) else ((muldiv_signed.f x11_11 (IntKind.u64.wrap (t108 + 1))).bind fun bt113 => (some (bt113.1, bt113.2)))) else ((muldiv_signed.f x11_11 t108).bind fun bt115 => (some (bt115.1, bt115.2))))) = some (r1, r2) := H; have A22 := Aside0.mk A220; clear A220; replace H := Option.bind_eq_some_iff.mp H; obtain ⟨t112, A230, H⟩ := H; replace H : (if t112 = true then (if (IntKind.u64.wrap (t108 + 1)) = 0 then (some (0, 4)) else ((muldiv_signed.f x11_11 (IntKind.u64.wrap (t108 + 1))).bind fun bt113 => (some (bt113.1, bt113.2)))) else ((muldiv_signed.f x11_11 t108).bind fun bt115 => (some (bt115.1, bt115.2)))) = some (r1, r2) := H; have A23 := Aside0.mk A230; clear A230
          by_cases c24 : t112 = true
          ·subst c24; have H1 : (if (IntKind.u64.wrap (t108 + 1)) = 0 then (some (0, 4)) else ((muldiv_signed.f x11_11 (IntKind.u64.wrap (t108 + 1))).bind fun bt113 => (some (bt113.1, bt113.2)))) = some (r1, r2) := by rw [if_pos rfl] at H; exact H
           clear H; have H := H1; clear H1
           by_cases c25 : (IntKind.u64.wrap (t108 + 1)) = 0
           ·rw [if_pos c25] at H; have c25b0 : ((IntKind.u64.wrap (t108 + 1)) == 0) = true := beq_iff_eq.mpr c25; have c25b1 : ((IntKind.u64.wrap (t108 + 1)) != 0) = false := bne_eq_false_iff_eq.mpr c25; clear c25; simp only [Option.some.injEq, Prod.mk.injEq] at H; obtain ⟨rfl, rfl⟩ := H; (try go_wp2); have n0_ := Aside0.mk (blk_drew BK105.out); have n1_ := Aside0.mk (below_drew1 HB.out); clear BK105; clear HB; have BK105 := n0_; have HB := n1_; clear n0_ n1_; refine start_ (n := 10) (S := fun w' => w'.cell? ⟨gb105, 0, none⟩ = some (.int .u64 t103) ∧ w'.cell? ⟨gb105, 1, none⟩ = some (.int .u64 t104)) (ds := []) abb3_0 (by kernel_rfl) rfl rfl ⟨(blk_cell BK105.out 0).trans rfl, (blk_cell BK105.out 1).trans rfl⟩ (fun hHeld => ?_); refine with_tabW muldiv_MulDiv.tab7 muldiv_MulDiv.bits7 (fun HT_ HW_ => ?_); generalize wc.drew = w26 at BK105 HB hHeld ⊢; refine pure_ (i := 1) (N := some 43) (v := ?_) (a' := ?_) abb3_1 rfl rfl (any_of HT_.out (by kernel_rfl)) (fun _ _ _ h => h) (Or.inl ⟨by rfl, ?_⟩) ?_ ?_; rotate_left
            ·intro w'; go_simp; (with_reducible rfl)
            rotate_left
            ·exact cbb3_0
            refine take_ (i := 0) (N := some 42) (v := ?_) (a' := ?_) abb3_2 rfl rfl (take_ofW HT_.out HW_.out (by kernel_rfl)) (fun _ _ _ h => h) (Or.inl ⟨by rfl, ?_⟩) hHeld ?_ ?_; rotate_left
            ·rintro w' ⟨s0, s1⟩; go_simp; (with_reducible rfl)
            rotate_left
            ·exact cbb3_0
            refine join_ (σ := Nat) 2 abb3_13 (fun s_ => [(44, .int .u64 t106), (45, .tuple #[.agg #[.int .u64 t107, .int .u64 t108], .int .u64 t109]), (12, .pointer (some ⟨s_, 0, none⟩)), (41, .tuple #[.agg #[.int .u64 t107, .int .u64 t108], .int .u64 t109]), (46, .agg #[.int .u64 t107, .int .u64 t108]), (47, .int .u64 t109)]) (fun s_ w' => (w'.cell? ⟨gb105, 0, none⟩ = some (.int .u64 t103) ∧ w'.cell? ⟨gb105, 1, none⟩ = some (.int .u64 t104)) ∧ (w'.heap[gb105]? = some (.cells #[.int .u64 t103, .int .u64 t104] 63 (0, 0))) ∧ (w'.heap[s_]? = some (.cells #[.int .u64 0, .int .u64 0] 63 (0, 0))) ∧ (w.heap.size ≤ s_) ∧ (w.heap.size ≤ s_) ∧ (gb105 ≠ s_) ∧ (s_ ≠ gb105) ∧ (Below w.heap.size w w')) ?_ ?_; rotate_left
            ·intro hCont; refine two_ (i := 2) (j := 7) (Ni := some 44) (Nj := some 12) abb3_3 abb3_4 rfl rfl rfl rfl (two_of HT_.out (by kernel_rfl)) (by decide) (by decide) (fun K hK => ?_) (fun K hK => ?_)
             ·skip
              refine goes_ Try.func44 (by kernel_rfl) rfl #[.int .i64 a2] (by rfl) rfl rfl pbb3_0 ?_; (with_reducible refine (muldiv_magnitude.calls a2 t106 _ A19.out).mono ?_); rintro e w' ⟨rfl, ⟨nd, rfl⟩⟩; refine ⟨_, rfl, ?_⟩; refine hK.out _ _ ⟨(blk_cell BK105.out 0).trans rfl, (blk_cell BK105.out 1).trans rfl⟩ (fun hHeld => ?_); clear hK K; refine norm_ (a' := ?_) ?_ ?_; rotate_left
              ·show Act.put _ (some 44) _ = _; simp only [Act.put, List.setIfInBounds_toArray, List.set_cons_zero, List.set_cons_succ, i64_w, i32_w]
               rfl
              refine two_ (i := 3) (j := 7) (Ni := some 45) (Nj := some 12) abb3_5 abb3_6 rfl rfl rfl rfl (two_of HT_.out (by kernel_rfl)) (by decide) (by decide) (fun K hK => ?_) (fun K hK => ?_)
              ·skip
               refine goes_ Try.func45 (by kernel_rfl) rfl #[.agg #[.int .u64 t103, .int .u64 t104], .int .u64 t106] (by rfl) rfl rfl pbb3_0 ?_; (with_reducible refine (muldiv_divide.calls t103 t104 t106 t107 t108 t109 _ A20.out).mono ?_); rintro e w27 ⟨rfl, hb⟩; refine ⟨_, rfl, ?_⟩; have n0_ := Aside0.mk (blk_below (g := gb105) (o := .cells #[.int .u64 t103, .int .u64 t104] 63 (0, 0)) pbb3_3 hb); have n1_ := Aside0.mk (below_step pbb3_2 hb); clear BK105; clear HB; have BK105 := n0_; have HB := n1_; clear n0_ n1_; (try clear hb); (try clear hb2); (try clear hk); (try clear hi); refine hK.out _ _ ⟨(blk_cell BK105.out 0).trans rfl, (blk_cell BK105.out 1).trans rfl⟩ (fun hHeld => ?_); clear hK K; refine norm_ (a' := ?_) ?_ ?_; rotate_left
               ·show Act.put _ (some 45) _ = _; simp only [Act.put, List.setIfInBounds_toArray, List.set_cons_zero, List.set_cons_succ, i64_w, i32_w]
                rfl
               refine pure_ (i := 4) (N := some 41) (v := ?_) (a' := ?_) abb3_7 rfl rfl (any_of HT_.out (by kernel_rfl)) (fun _ _ _ h => h) (Or.inl ⟨by rfl, ?_⟩) ?_ ?_; rotate_left
               ·intro w'; go_simp; (with_reducible rfl)
               rotate_left
               ·exact cbb3_0
               refine pure_ (i := 5) (N := some 46) (v := ?_) (a' := ?_) abb3_9 rfl rfl (any_of HT_.out (by kernel_rfl)) (fun _ _ _ h => h) (Or.inl ⟨by rfl, ?_⟩) ?_ ?_; rotate_left
               ·intro w'; go_simp; (with_reducible rfl)
               rotate_left
               ·exact cbb3_0
               refine pure_ (i := 6) (N := some 47) (v := ?_) (a' := ?_) abb3_11 rfl rfl (any_of HT_.out (by kernel_rfl)) (fun _ _ _ h => h) (Or.inl ⟨by rfl, ?_⟩) ?_ ?_; rotate_left
               ·intro w'; go_simp; (with_reducible rfl)
               rotate_left
               ·exact cbb3_0
               refine one_ (i := 7) (N := some 12) abb3_13 rfl rfl (one_of HT_.out (by kernel_rfl)) (by decide) (fun K hK => ?_); refine box_step ?hg (N := 12) ?hd (cs := #[.int .u64 0, .int .u64 0]) (t := 63) ?hr ?_; (case hd => rfl); (case hg => rfl); (case hr => first | (go_simp; done) | (go_simp; rfl)); intro gb110 hg w28 hbox hb; have n0_ := Aside0.mk (blk_below (g := gb105) (o := .cells #[.int .u64 t103, .int .u64 t104] 63 (0, 0)) pbb3_3 hb); have n1_ := Aside0.mk (below_step pbb3_2 hb); have n2_ := Aside0.mk (hbox); have n3_ := Aside0.mk ((pbb3_4 : w.heap.size ≤ gb110)); have n4_ := Aside0.mk ((pbb3_4 : w.heap.size ≤ gb110)); have n5_ := Aside0.mk ((pbb3_5 : gb105 ≠ gb110)); have n6_ := Aside0.mk ((pbb3_6 : gb110 ≠ gb105)); clear BK105; clear HB; have BK105 := n0_; have HB := n1_; have BK110 := n2_; have GW110 := n3_; have GE110 := n4_; have NB105_110 := n5_; have NB110_105 := n6_; clear n0_ n1_ n2_ n3_ n4_ n5_ n6_; clear hb hbox hg; refine hK.out _ _ ⟨(blk_cell BK105.out 0).trans rfl, (blk_cell BK105.out 1).trans rfl⟩ (fun hHeld => ?_); clear hK K; refine norm_ (a' := ?_) ?_ ?_; rotate_left
               ·show Act.put _ (some 12) _ = _; simp only [Act.put, List.setIfInBounds_toArray, List.set_cons_zero, List.set_cons_succ, i64_w, i32_w]
                rfl
               exact norm_ pbb3_7 (hCont (gb110) _ ⟨hHeld, pbb3_3, pbb3_8, GW110.out, GE110.out, NB105_110.out, NB110_105.out, pbb3_9⟩)
              ·skip
               refine box_step ?hg (N := 12) ?hd (cs := #[.int .u64 0, .int .u64 0]) (t := 63) ?hr ?_; (case hd => rfl); (case hg => rfl); (case hr => first | (go_simp; done) | (go_simp; rfl)); intro gb110 hg w27 hbox hb; have n0_ := Aside0.mk (blk_below (g := gb105) (o := .cells #[.int .u64 t103, .int .u64 t104] 63 (0, 0)) pbb3_3 hb); have n1_ := Aside0.mk (below_step pbb3_2 hb); have n2_ := Aside0.mk (hbox); have n3_ := Aside0.mk ((pbb3_4 : w.heap.size ≤ gb110)); have n4_ := Aside0.mk ((pbb3_4 : w.heap.size ≤ gb110)); have n5_ := Aside0.mk ((pbb3_5 : gb105 ≠ gb110)); have n6_ := Aside0.mk ((pbb3_6 : gb110 ≠ gb105)); clear BK105; clear HB; have BK105 := n0_; have HB := n1_; have BK110 := n2_; have GW110 := n3_; have GE110 := n4_; have NB105_110 := n5_; have NB110_105 := n6_; clear n0_ n1_ n2_ n3_ n4_ n5_ n6_; clear hb hbox hg; refine hK.out _ _ ⟨(blk_cell BK105.out 0).trans rfl, (blk_cell BK105.out 1).trans rfl⟩ (fun hHeld => ?_); clear hK K; refine norm_ (a' := ?_) ?_ ?_; rotate_left
               ·show Act.put _ (some 12) _ = _; simp only [Act.put, List.setIfInBounds_toArray, List.set_cons_zero, List.set_cons_succ, i64_w, i32_w]
                rfl
               refine one_ (i := 3) (N := some 45) abb3_8 rfl rfl (one_of HT_.out (by kernel_rfl)) (by decide) (fun K hK => ?_); refine goes_ Try.func45 (by kernel_rfl) rfl #[.agg #[.int .u64 t103, .int .u64 t104], .int .u64 t106] (by rfl) rfl rfl pbb3_0 ?_; (with_reducible refine (muldiv_divide.calls t103 t104 t106 t107 t108 t109 _ A20.out).mono ?_); rintro e w28 ⟨rfl, hb⟩; refine ⟨_, rfl, ?_⟩; have n0_ := Aside0.mk (blk_below (g := gb105) (o := .cells #[.int .u64 t103, .int .u64 t104] 63 (0, 0)) pbb3_3 hb); have n1_ := Aside0.mk (blk_below (g := gb110) (o := .cells #[.int .u64 0, .int .u64 0] 63 (0, 0)) pbb3_8 hb); have n2_ := Aside0.mk (below_step pbb3_9 hb); clear BK105; clear BK110; clear HB; have BK105 := n0_; have BK110 := n1_; have HB := n2_; clear n0_ n1_ n2_; (try clear hb); (try clear hb2); (try clear hk); (try clear hi); refine hK.out _ _ ⟨(blk_cell BK105.out 0).trans rfl, (blk_cell BK105.out 1).trans rfl⟩ (fun hHeld => ?_); clear hK K; refine norm_ (a' := ?_) ?_ ?_; rotate_left
               ·show Act.put _ (some 45) _ = _; simp only [Act.put, List.setIfInBounds_toArray, List.set_cons_zero, List.set_cons_succ, i64_w, i32_w]
                rfl
               refine pure_ (i := 4) (N := some 41) (v := ?_) (a' := ?_) abb3_10 rfl rfl (any_of HT_.out (by kernel_rfl)) (fun _ _ _ h => h) (Or.inl ⟨by rfl, ?_⟩) ?_ ?_; rotate_left
               ·intro w'; go_simp; (with_reducible rfl)
               rotate_left
               ·exact cbb3_0
               refine pure_ (i := 5) (N := some 46) (v := ?_) (a' := ?_) abb3_12 rfl rfl (any_of HT_.out (by kernel_rfl)) (fun _ _ _ h => h) (Or.inl ⟨by rfl, ?_⟩) ?_ ?_; rotate_left
               ·intro w'; go_simp; (with_reducible rfl)
               rotate_left
               ·exact cbb3_0
               refine pure_ (i := 6) (N := some 47) (v := ?_) (a' := ?_) abb3_13 rfl rfl (any_of HT_.out (by kernel_rfl)) (fun _ _ _ h => h) (Or.inl ⟨by rfl, ?_⟩) ?_ ?_; rotate_left
               ·intro w'; go_simp; (with_reducible rfl)
               rotate_left
               ·exact cbb3_0
               exact norm_ pbb3_7 (hCont (gb110) _ ⟨hHeld, pbb3_3, pbb3_8, GW110.out, GE110.out, NB105_110.out, NB110_105.out, pbb3_9⟩)
             ·skip
              refine box_step ?hg (N := 12) ?hd (cs := #[.int .u64 0, .int .u64 0]) (t := 63) ?hr ?_; (case hd => rfl); (case hg => rfl); (case hr => first | (go_simp; done) | (go_simp; rfl)); intro gb110 hg w27 hbox hb; have n0_ := Aside0.mk (blk_below (g := gb105) (o := .cells #[.int .u64 t103, .int .u64 t104] 63 (0, 0)) pbb3_3 hb); have n1_ := Aside0.mk (below_step pbb3_2 hb); have n2_ := Aside0.mk (hbox); have n3_ := Aside0.mk ((pbb3_4 : w.heap.size ≤ gb110)); have n4_ := Aside0.mk ((pbb3_4 : w.heap.size ≤ gb110)); have n5_ := Aside0.mk ((pbb3_5 : gb105 ≠ gb110)); have n6_ := Aside0.mk ((pbb3_6 : gb110 ≠ gb105)); clear BK105; clear HB; have BK105 := n0_; have HB := n1_; have BK110 := n2_; have GW110 := n3_; have GE110 := n4_; have NB105_110 := n5_; have NB110_105 := n6_; clear n0_ n1_ n2_ n3_ n4_ n5_ n6_; clear hb hbox hg; refine hK.out _ _ ⟨(blk_cell BK105.out 0).trans rfl, (blk_cell BK105.out 1).trans rfl⟩ (fun hHeld => ?_); clear hK K; refine norm_ (a' := ?_) ?_ ?_; rotate_left
              ·show Act.put _ (some 12) _ = _; simp only [Act.put, List.setIfInBounds_toArray, List.set_cons_zero, List.set_cons_succ, i64_w, i32_w]
               rfl
              refine one_ (i := 2) (N := some 44) abb3_6 rfl rfl (one_of HT_.out (by kernel_rfl)) (by decide) (fun K hK => ?_); refine goes_ Try.func44 (by kernel_rfl) rfl #[.int .i64 a2] (by rfl) rfl rfl pbb3_0 ?_; (with_reducible refine (muldiv_magnitude.calls a2 t106 _ A19.out).mono ?_); rintro e w' ⟨rfl, ⟨nd, rfl⟩⟩; refine ⟨_, rfl, ?_⟩; refine hK.out _ _ ⟨(blk_cell BK105.out 0).trans rfl, (blk_cell BK105.out 1).trans rfl⟩ (fun hHeld => ?_); clear hK K; refine norm_ (a' := ?_) ?_ ?_; rotate_left
              ·show Act.put _ (some 44) _ = _; simp only [Act.put, List.setIfInBounds_toArray, List.set_cons_zero, List.set_cons_succ, i64_w, i32_w]
               rfl
              refine one_ (i := 3) (N := some 45) abb3_8 rfl rfl (one_of HT_.out (by kernel_rfl)) (by decide) (fun K hK => ?_); refine goes_ Try.func45 (by kernel_rfl) rfl #[.agg #[.int .u64 t103, .int .u64 t104], .int .u64 t106] (by rfl) rfl rfl pbb3_0 ?_; (with_reducible refine (muldiv_divide.calls t103 t104 t106 t107 t108 t109 _ A20.out).mono ?_); rintro e w28 ⟨rfl, hb⟩; refine ⟨_, rfl, ?_⟩; have n0_ := Aside0.mk (blk_below (g := gb105) (o := .cells #[.int .u64 t103, .int .u64 t104] 63 (0, 0)) pbb3_3 hb); have n1_ := Aside0.mk (blk_below (g := gb110) (o := .cells #[.int .u64 0, .int .u64 0] 63 (0, 0)) pbb3_8 hb); have n2_ := Aside0.mk (below_step pbb3_9 hb); clear BK105; clear BK110; clear HB; have BK105 := n0_; have BK110 := n1_; have HB := n2_; clear n0_ n1_ n2_; (try clear hb); (try clear hb2); (try clear hk); (try clear hi); refine hK.out _ _ ⟨(blk_cell BK105.out 0).trans rfl, (blk_cell BK105.out 1).trans rfl⟩ (fun hHeld => ?_); clear hK K; refine norm_ (a' := ?_) ?_ ?_; rotate_left
              ·show Act.put _ (some 45) _ = _; simp only [Act.put, List.setIfInBounds_toArray, List.set_cons_zero, List.set_cons_succ, i64_w, i32_w]
               rfl
              refine pure_ (i := 4) (N := some 41) (v := ?_) (a' := ?_) abb3_10 rfl rfl (any_of HT_.out (by kernel_rfl)) (fun _ _ _ h => h) (Or.inl ⟨by rfl, ?_⟩) ?_ ?_; rotate_left
              ·intro w'; go_simp; (with_reducible rfl)
              rotate_left
              ·exact cbb3_0
              refine pure_ (i := 5) (N := some 46) (v := ?_) (a' := ?_) abb3_12 rfl rfl (any_of HT_.out (by kernel_rfl)) (fun _ _ _ h => h) (Or.inl ⟨by rfl, ?_⟩) ?_ ?_; rotate_left
              ·intro w'; go_simp; (with_reducible rfl)
              rotate_left
              ·exact cbb3_0
              refine pure_ (i := 6) (N := some 47) (v := ?_) (a' := ?_) abb3_13 rfl rfl (any_of HT_.out (by kernel_rfl)) (fun _ _ _ h => h) (Or.inl ⟨by rfl, ?_⟩) ?_ ?_; rotate_left
              ·intro w'; go_simp; (with_reducible rfl)
              rotate_left
              ·exact cbb3_0
              exact norm_ pbb3_7 (hCont (gb110) _ ⟨hHeld, pbb3_3, pbb3_8, GW110.out, GE110.out, NB105_110.out, NB110_105.out, pbb3_9⟩)
            rintro gb110 w29 ⟨hS_, h0_, h1_, h2_, h3_, h4_, h5_, h6_⟩; have n0_ : Aside0 (w29.heap[gb105]? = some (.cells #[.int .u64 t103, .int .u64 t104] 63 (0, 0))) := ⟨h0_⟩; have n1_ : Aside0 (w29.heap[gb110]? = some (.cells #[.int .u64 0, .int .u64 0] 63 (0, 0))) := ⟨h1_⟩; have n2_ : Aside0 (w.heap.size ≤ gb110) := ⟨h2_⟩; have n3_ : Aside0 (w.heap.size ≤ gb110) := ⟨h3_⟩; have n4_ : Aside0 (gb105 ≠ gb110) := ⟨h4_⟩; have n5_ : Aside0 (gb110 ≠ gb105) := ⟨h5_⟩; have n6_ : Aside0 (Below w.heap.size w w29) := ⟨h6_⟩; clear BK105; clear HB; clear h0_ h1_ h2_ h3_ h4_ h5_ h6_; have BK105 := n0_; have BK110 := n1_; have GW110 := n2_; have GE110 := n3_; have NB105_110 := n4_; have NB110_105 := n5_; have HB := n6_; clear n0_ n1_ n2_ n3_ n4_ n5_ n6_; have hHeld : w29.cell? ⟨gb105, 0, none⟩ = some (.int .u64 t103) ∧ w29.cell? ⟨gb105, 1, none⟩ = some (.int .u64 t104) := hS_; refine norm_ (a' := ?_) ?_ ?_; rotate_left
            ·simp only [putAll, Act.put, List.setIfInBounds_toArray, List.set_cons_zero, List.set_cons_succ]
             rfl
            refine one_ (i := 8) (N := none) abb3_14 rfl rfl (one_of HT_.out (by kernel_rfl)) (by decide) (fun K hK => ?_); have hs30 : w29.cell? ⟨gb110, 0, none⟩ = some (.int .u64 0) := (blk_cell BK110.out 0).trans rfl; have hfs30 := blk_frozen BK110.out 0; have hns30_0 := NB105_110.out; have hms30_0 := NB110_105.out; have hs31 : w29.cell? ⟨gb110, 1, none⟩ = some (.int .u64 0) := (blk_cell BK110.out 1).trans rfl; have hfs31 := blk_frozen BK110.out 1; have hns31_0 := NB105_110.out; have hms31_0 := NB110_105.out; refine skip_ (w1 := ?_) (by rfl) rfl ?_ ?_; rotate_left
            ·go_simp
             rfl
            refine hK.out _ _ ⟨((cell_far (p := ⟨gb110, _, none⟩) NB105_110.out _).trans (((cell_far (p := ⟨gb110, _, none⟩) NB105_110.out _).trans (hHeld.1)))), ((cell_far (p := ⟨gb110, _, none⟩) NB105_110.out _).trans (((cell_far (p := ⟨gb110, _, none⟩) NB105_110.out _).trans (hHeld.2))))⟩ (fun hHeld => ?_); clear hK K; refine pure_ (i := 9) (N := some 13) (v := ?_) (a' := ?_) abb3_15 rfl rfl (any_of HT_.out (by kernel_rfl)) (fun _ _ _ h => h) (Or.inl ⟨by rfl, ?_⟩) ?_ ?_; rotate_left
            ·intro w'; go_simp; (with_reducible rfl)
            rotate_left
            ·exact cbb3_0
            refine done_ (done_of HT_.out (by kernel_rfl)) ?_; have hnb32 := NB110_105.out; have hnc32 := NB105_110.out; have hcz33_0 : w29.cell? ⟨gb110, 0, none⟩ = some (.int .u64 0) := (blk_cell BK110.out 0).trans rfl; have hcz33_1 : w29.cell? ⟨gb110, 1, none⟩ = some (.int .u64 0) := (blk_cell BK110.out 1).trans rfl; have hfz33_0 := blk_frozen BK110.out 0; have hfz33_1 := blk_frozen BK110.out 1; (try go_wp2_with (first | ((with_reducible refine gate_callee (f := 44) rfl ?_); refine goesL_ (some 60) rfl rfl Try.func44 (by kernel_rfl) rfl #[.int .i64 a2] rfl pbb3_0 ?_; (with_reducible refine (muldiv_magnitude.calls a2 t111 _ A22.out).mono ?_); rintro e w' ⟨rfl, ⟨nd, rfl⟩⟩; refine ⟨_, rfl, ?_⟩) | ((with_reducible refine gate_callee (f := 46) rfl ?_); refine goesL_ (some 61) rfl rfl Try.func46 (by kernel_rfl) rfl #[.int .i64 a3, .bool x11_11, .bool ((Int.tmod t108 2) == 1), .int .u64 t109, .int .u64 t111] rfl pbb3_0 ?_; (with_reducible refine (muldiv_away.calls a3 x11_11 ((Int.tmod t108 2) == 1) t109 t111 true _ A23.out).mono ?_); rintro e w' ⟨rfl, ⟨nd, rfl⟩⟩; refine ⟨_, rfl, ?_⟩)))
            go_ret2
            exact ⟨pbb2_6, pbb3_9⟩
           ·rw [if_neg c25] at H; have c25b0 : ((IntKind.u64.wrap (t108 + 1)) == 0) = false := beq_eq_false_iff_ne.mpr c25; have c25b1 : ((IntKind.u64.wrap (t108 + 1)) != 0) = true := bne_iff_ne.mpr c25; replace H := Option.bind_eq_some_iff.mp H; obtain ⟨⟨t113, t114⟩, A340, H⟩ := H; replace H : (some (t113, t114)) = some (r1, r2) := H; have A34 := Aside0.mk A340; clear A340; simp only [Option.some.injEq, Prod.mk.injEq] at H; obtain ⟨rfl, rfl⟩ := H; (try go_wp2); have n0_ := Aside0.mk (blk_drew BK105.out); have n1_ := Aside0.mk (below_drew1 HB.out); clear BK105; clear HB; have BK105 := n0_; have HB := n1_; clear n0_ n1_; refine start_ (n := 10) (S := fun w' => w'.cell? ⟨gb105, 0, none⟩ = some (.int .u64 t103) ∧ w'.cell? ⟨gb105, 1, none⟩ = some (.int .u64 t104)) (ds := []) abb3_0 (by kernel_rfl) rfl rfl ⟨(blk_cell BK105.out 0).trans rfl, (blk_cell BK105.out 1).trans rfl⟩ (fun hHeld => ?_); refine with_tabW muldiv_MulDiv.tab7 muldiv_MulDiv.bits7 (fun HT_ HW_ => ?_); generalize wc.drew = w35 at BK105 HB hHeld ⊢; refine pure_ (i := 1) (N := some 43) (v := ?_) (a' := ?_) abb3_1 rfl rfl (any_of HT_.out (by kernel_rfl)) (fun _ _ _ h => h) (Or.inl ⟨by rfl, ?_⟩) ?_ ?_; rotate_left
            ·intro w'; go_simp; (with_reducible rfl)
            rotate_left
            ·exact cbb3_0
            refine take_ (i := 0) (N := some 42) (v := ?_) (a' := ?_) abb3_2 rfl rfl (take_ofW HT_.out HW_.out (by kernel_rfl)) (fun _ _ _ h => h) (Or.inl ⟨by rfl, ?_⟩) hHeld ?_ ?_; rotate_left
            ·rintro w' ⟨s0, s1⟩; go_simp; (with_reducible rfl)
            rotate_left
            ·exact cbb3_0
            refine join_ (σ := Nat) 2 abb3_13 (fun s_ => [(44, .int .u64 t106), (45, .tuple #[.agg #[.int .u64 t107, .int .u64 t108], .int .u64 t109]), (12, .pointer (some ⟨s_, 0, none⟩)), (41, .tuple #[.agg #[.int .u64 t107, .int .u64 t108], .int .u64 t109]), (46, .agg #[.int .u64 t107, .int .u64 t108]), (47, .int .u64 t109)]) (fun s_ w' => (w'.cell? ⟨gb105, 0, none⟩ = some (.int .u64 t103) ∧ w'.cell? ⟨gb105, 1, none⟩ = some (.int .u64 t104)) ∧ (w'.heap[gb105]? = some (.cells #[.int .u64 t103, .int .u64 t104] 63 (0, 0))) ∧ (w'.heap[s_]? = some (.cells #[.int .u64 0, .int .u64 0] 63 (0, 0))) ∧ (w.heap.size ≤ s_) ∧ (w.heap.size ≤ s_) ∧ (gb105 ≠ s_) ∧ (s_ ≠ gb105) ∧ (Below w.heap.size w w')) ?_ ?_; rotate_left
            ·intro hCont; refine two_ (i := 2) (j := 7) (Ni := some 44) (Nj := some 12) abb3_3 abb3_4 rfl rfl rfl rfl (two_of HT_.out (by kernel_rfl)) (by decide) (by decide) (fun K hK => ?_) (fun K hK => ?_)
             ·skip
              refine goes_ Try.func44 (by kernel_rfl) rfl #[.int .i64 a2] (by rfl) rfl rfl pbb3_0 ?_; (with_reducible refine (muldiv_magnitude.calls a2 t106 _ A19.out).mono ?_); rintro e w' ⟨rfl, ⟨nd, rfl⟩⟩; refine ⟨_, rfl, ?_⟩; refine hK.out _ _ ⟨(blk_cell BK105.out 0).trans rfl, (blk_cell BK105.out 1).trans rfl⟩ (fun hHeld => ?_); clear hK K; refine norm_ (a' := ?_) ?_ ?_; rotate_left
              ·show Act.put _ (some 44) _ = _; simp only [Act.put, List.setIfInBounds_toArray, List.set_cons_zero, List.set_cons_succ, i64_w, i32_w]
               rfl
              refine two_ (i := 3) (j := 7) (Ni := some 45) (Nj := some 12) abb3_5 abb3_6 rfl rfl rfl rfl (two_of HT_.out (by kernel_rfl)) (by decide) (by decide) (fun K hK => ?_) (fun K hK => ?_)
              ·skip
               refine goes_ Try.func45 (by kernel_rfl) rfl #[.agg #[.int .u64 t103, .int .u64 t104], .int .u64 t106] (by rfl) rfl rfl pbb3_0 ?_; (with_reducible refine (muldiv_divide.calls t103 t104 t106 t107 t108 t109 _ A20.out).mono ?_); rintro e w36 ⟨rfl, hb⟩; refine ⟨_, rfl, ?_⟩; have n0_ := Aside0.mk (blk_below (g := gb105) (o := .cells #[.int .u64 t103, .int .u64 t104] 63 (0, 0)) pbb3_3 hb); have n1_ := Aside0.mk (below_step pbb3_2 hb); clear BK105; clear HB; have BK105 := n0_; have HB := n1_; clear n0_ n1_; (try clear hb); (try clear hb2); (try clear hk); (try clear hi); refine hK.out _ _ ⟨(blk_cell BK105.out 0).trans rfl, (blk_cell BK105.out 1).trans rfl⟩ (fun hHeld => ?_); clear hK K; refine norm_ (a' := ?_) ?_ ?_; rotate_left
               ·show Act.put _ (some 45) _ = _; simp only [Act.put, List.setIfInBounds_toArray, List.set_cons_zero, List.set_cons_succ, i64_w, i32_w]
                rfl
               refine pure_ (i := 4) (N := some 41) (v := ?_) (a' := ?_) abb3_7 rfl rfl (any_of HT_.out (by kernel_rfl)) (fun _ _ _ h => h) (Or.inl ⟨by rfl, ?_⟩) ?_ ?_; rotate_left
               ·intro w'; go_simp; (with_reducible rfl)
               rotate_left
               ·exact cbb3_0
               refine pure_ (i := 5) (N := some 46) (v := ?_) (a' := ?_) abb3_9 rfl rfl (any_of HT_.out (by kernel_rfl)) (fun _ _ _ h => h) (Or.inl ⟨by rfl, ?_⟩) ?_ ?_; rotate_left
               ·intro w'; go_simp; (with_reducible rfl)
               rotate_left
               ·exact cbb3_0
               refine pure_ (i := 6) (N := some 47) (v := ?_) (a' := ?_) abb3_11 rfl rfl (any_of HT_.out (by kernel_rfl)) (fun _ _ _ h => h) (Or.inl ⟨by rfl, ?_⟩) ?_ ?_; rotate_left
               ·intro w'; go_simp; (with_reducible rfl)
               rotate_left
               ·exact cbb3_0
               refine one_ (i := 7) (N := some 12) abb3_13 rfl rfl (one_of HT_.out (by kernel_rfl)) (by decide) (fun K hK => ?_); refine box_step ?hg (N := 12) ?hd (cs := #[.int .u64 0, .int .u64 0]) (t := 63) ?hr ?_; (case hd => rfl); (case hg => rfl); (case hr => first | (go_simp; done) | (go_simp; rfl)); intro gb110 hg w37 hbox hb; have n0_ := Aside0.mk (blk_below (g := gb105) (o := .cells #[.int .u64 t103, .int .u64 t104] 63 (0, 0)) pbb3_3 hb); have n1_ := Aside0.mk (below_step pbb3_2 hb); have n2_ := Aside0.mk (hbox); have n3_ := Aside0.mk ((pbb3_4 : w.heap.size ≤ gb110)); have n4_ := Aside0.mk ((pbb3_4 : w.heap.size ≤ gb110)); have n5_ := Aside0.mk ((pbb3_5 : gb105 ≠ gb110)); have n6_ := Aside0.mk ((pbb3_6 : gb110 ≠ gb105)); clear BK105; clear HB; have BK105 := n0_; have HB := n1_; have BK110 := n2_; have GW110 := n3_; have GE110 := n4_; have NB105_110 := n5_; have NB110_105 := n6_; clear n0_ n1_ n2_ n3_ n4_ n5_ n6_; clear hb hbox hg; refine hK.out _ _ ⟨(blk_cell BK105.out 0).trans rfl, (blk_cell BK105.out 1).trans rfl⟩ (fun hHeld => ?_); clear hK K; refine norm_ (a' := ?_) ?_ ?_; rotate_left
               ·show Act.put _ (some 12) _ = _; simp only [Act.put, List.setIfInBounds_toArray, List.set_cons_zero, List.set_cons_succ, i64_w, i32_w]
                rfl
               exact norm_ pbb3_7 (hCont (gb110) _ ⟨hHeld, pbb3_3, pbb3_8, GW110.out, GE110.out, NB105_110.out, NB110_105.out, pbb3_9⟩)
              ·skip
               refine box_step ?hg (N := 12) ?hd (cs := #[.int .u64 0, .int .u64 0]) (t := 63) ?hr ?_; (case hd => rfl); (case hg => rfl); (case hr => first | (go_simp; done) | (go_simp; rfl)); intro gb110 hg w36 hbox hb; have n0_ := Aside0.mk (blk_below (g := gb105) (o := .cells #[.int .u64 t103, .int .u64 t104] 63 (0, 0)) pbb3_3 hb); have n1_ := Aside0.mk (below_step pbb3_2 hb); have n2_ := Aside0.mk (hbox); have n3_ := Aside0.mk ((pbb3_4 : w.heap.size ≤ gb110)); have n4_ := Aside0.mk ((pbb3_4 : w.heap.size ≤ gb110)); have n5_ := Aside0.mk ((pbb3_5 : gb105 ≠ gb110)); have n6_ := Aside0.mk ((pbb3_6 : gb110 ≠ gb105)); clear BK105; clear HB; have BK105 := n0_; have HB := n1_; have BK110 := n2_; have GW110 := n3_; have GE110 := n4_; have NB105_110 := n5_; have NB110_105 := n6_; clear n0_ n1_ n2_ n3_ n4_ n5_ n6_; clear hb hbox hg; refine hK.out _ _ ⟨(blk_cell BK105.out 0).trans rfl, (blk_cell BK105.out 1).trans rfl⟩ (fun hHeld => ?_); clear hK K; refine norm_ (a' := ?_) ?_ ?_; rotate_left
               ·show Act.put _ (some 12) _ = _; simp only [Act.put, List.setIfInBounds_toArray, List.set_cons_zero, List.set_cons_succ, i64_w, i32_w]
                rfl
               refine one_ (i := 3) (N := some 45) abb3_8 rfl rfl (one_of HT_.out (by kernel_rfl)) (by decide) (fun K hK => ?_); refine goes_ Try.func45 (by kernel_rfl) rfl #[.agg #[.int .u64 t103, .int .u64 t104], .int .u64 t106] (by rfl) rfl rfl pbb3_0 ?_; (with_reducible refine (muldiv_divide.calls t103 t104 t106 t107 t108 t109 _ A20.out).mono ?_); rintro e w37 ⟨rfl, hb⟩; refine ⟨_, rfl, ?_⟩; have n0_ := Aside0.mk (blk_below (g := gb105) (o := .cells #[.int .u64 t103, .int .u64 t104] 63 (0, 0)) pbb3_3 hb); have n1_ := Aside0.mk (blk_below (g := gb110) (o := .cells #[.int .u64 0, .int .u64 0] 63 (0, 0)) pbb3_8 hb); have n2_ := Aside0.mk (below_step pbb3_9 hb); clear BK105; clear BK110; clear HB; have BK105 := n0_; have BK110 := n1_; have HB := n2_; clear n0_ n1_ n2_; (try clear hb); (try clear hb2); (try clear hk); (try clear hi); refine hK.out _ _ ⟨(blk_cell BK105.out 0).trans rfl, (blk_cell BK105.out 1).trans rfl⟩ (fun hHeld => ?_); clear hK K; refine norm_ (a' := ?_) ?_ ?_; rotate_left
               ·show Act.put _ (some 45) _ = _; simp only [Act.put, List.setIfInBounds_toArray, List.set_cons_zero, List.set_cons_succ, i64_w, i32_w]
                rfl
               refine pure_ (i := 4) (N := some 41) (v := ?_) (a' := ?_) abb3_10 rfl rfl (any_of HT_.out (by kernel_rfl)) (fun _ _ _ h => h) (Or.inl ⟨by rfl, ?_⟩) ?_ ?_; rotate_left
               ·intro w'; go_simp; (with_reducible rfl)
               rotate_left
               ·exact cbb3_0
               refine pure_ (i := 5) (N := some 46) (v := ?_) (a' := ?_) abb3_12 rfl rfl (any_of HT_.out (by kernel_rfl)) (fun _ _ _ h => h) (Or.inl ⟨by rfl, ?_⟩) ?_ ?_; rotate_left
               ·intro w'; go_simp; (with_reducible rfl)
               rotate_left
               ·exact cbb3_0
               refine pure_ (i := 6) (N := some 47) (v := ?_) (a' := ?_) abb3_13 rfl rfl (any_of HT_.out (by kernel_rfl)) (fun _ _ _ h => h) (Or.inl ⟨by rfl, ?_⟩) ?_ ?_; rotate_left
               ·intro w'; go_simp; (with_reducible rfl)
               rotate_left
               ·exact cbb3_0
               exact norm_ pbb3_7 (hCont (gb110) _ ⟨hHeld, pbb3_3, pbb3_8, GW110.out, GE110.out, NB105_110.out, NB110_105.out, pbb3_9⟩)
             ·skip
              refine box_step ?hg (N := 12) ?hd (cs := #[.int .u64 0, .int .u64 0]) (t := 63) ?hr ?_; (case hd => rfl); (case hg => rfl); (case hr => first | (go_simp; done) | (go_simp; rfl)); intro gb110 hg w36 hbox hb; have n0_ := Aside0.mk (blk_below (g := gb105) (o := .cells #[.int .u64 t103, .int .u64 t104] 63 (0, 0)) pbb3_3 hb); have n1_ := Aside0.mk (below_step pbb3_2 hb); have n2_ := Aside0.mk (hbox); have n3_ := Aside0.mk ((pbb3_4 : w.heap.size ≤ gb110)); have n4_ := Aside0.mk ((pbb3_4 : w.heap.size ≤ gb110)); have n5_ := Aside0.mk ((pbb3_5 : gb105 ≠ gb110)); have n6_ := Aside0.mk ((pbb3_6 : gb110 ≠ gb105)); clear BK105; clear HB; have BK105 := n0_; have HB := n1_; have BK110 := n2_; have GW110 := n3_; have GE110 := n4_; have NB105_110 := n5_; have NB110_105 := n6_; clear n0_ n1_ n2_ n3_ n4_ n5_ n6_; clear hb hbox hg; refine hK.out _ _ ⟨(blk_cell BK105.out 0).trans rfl, (blk_cell BK105.out 1).trans rfl⟩ (fun hHeld => ?_); clear hK K; refine norm_ (a' := ?_) ?_ ?_; rotate_left
              ·show Act.put _ (some 12) _ = _; simp only [Act.put, List.setIfInBounds_toArray, List.set_cons_zero, List.set_cons_succ, i64_w, i32_w]
               rfl
              refine one_ (i := 2) (N := some 44) abb3_6 rfl rfl (one_of HT_.out (by kernel_rfl)) (by decide) (fun K hK => ?_); refine goes_ Try.func44 (by kernel_rfl) rfl #[.int .i64 a2] (by rfl) rfl rfl pbb3_0 ?_; (with_reducible refine (muldiv_magnitude.calls a2 t106 _ A19.out).mono ?_); rintro e w' ⟨rfl, ⟨nd, rfl⟩⟩; refine ⟨_, rfl, ?_⟩; refine hK.out _ _ ⟨(blk_cell BK105.out 0).trans rfl, (blk_cell BK105.out 1).trans rfl⟩ (fun hHeld => ?_); clear hK K; refine norm_ (a' := ?_) ?_ ?_; rotate_left
              ·show Act.put _ (some 44) _ = _; simp only [Act.put, List.setIfInBounds_toArray, List.set_cons_zero, List.set_cons_succ, i64_w, i32_w]
               rfl
              refine one_ (i := 3) (N := some 45) abb3_8 rfl rfl (one_of HT_.out (by kernel_rfl)) (by decide) (fun K hK => ?_); refine goes_ Try.func45 (by kernel_rfl) rfl #[.agg #[.int .u64 t103, .int .u64 t104], .int .u64 t106] (by rfl) rfl rfl pbb3_0 ?_; (with_reducible refine (muldiv_divide.calls t103 t104 t106 t107 t108 t109 _ A20.out).mono ?_); rintro e w37 ⟨rfl, hb⟩; refine ⟨_, rfl, ?_⟩; have n0_ := Aside0.mk (blk_below (g := gb105) (o := .cells #[.int .u64 t103, .int .u64 t104] 63 (0, 0)) pbb3_3 hb); have n1_ := Aside0.mk (blk_below (g := gb110) (o := .cells #[.int .u64 0, .int .u64 0] 63 (0, 0)) pbb3_8 hb); have n2_ := Aside0.mk (below_step pbb3_9 hb); clear BK105; clear BK110; clear HB; have BK105 := n0_; have BK110 := n1_; have HB := n2_; clear n0_ n1_ n2_; (try clear hb); (try clear hb2); (try clear hk); (try clear hi); refine hK.out _ _ ⟨(blk_cell BK105.out 0).trans rfl, (blk_cell BK105.out 1).trans rfl⟩ (fun hHeld => ?_); clear hK K; refine norm_ (a' := ?_) ?_ ?_; rotate_left
              ·show Act.put _ (some 45) _ = _; simp only [Act.put, List.setIfInBounds_toArray, List.set_cons_zero, List.set_cons_succ, i64_w, i32_w]
               rfl
              refine pure_ (i := 4) (N := some 41) (v := ?_) (a' := ?_) abb3_10 rfl rfl (any_of HT_.out (by kernel_rfl)) (fun _ _ _ h => h) (Or.inl ⟨by rfl, ?_⟩) ?_ ?_; rotate_left
              ·intro w'; go_simp; (with_reducible rfl)
              rotate_left
              ·exact cbb3_0
              refine pure_ (i := 5) (N := some 46) (v := ?_) (a' := ?_) abb3_12 rfl rfl (any_of HT_.out (by kernel_rfl)) (fun _ _ _ h => h) (Or.inl ⟨by rfl, ?_⟩) ?_ ?_; rotate_left
              ·intro w'; go_simp; (with_reducible rfl)
              rotate_left
              ·exact cbb3_0
              refine pure_ (i := 6) (N := some 47) (v := ?_) (a' := ?_) abb3_13 rfl rfl (any_of HT_.out (by kernel_rfl)) (fun _ _ _ h => h) (Or.inl ⟨by rfl, ?_⟩) ?_ ?_; rotate_left
              ·intro w'; go_simp; (with_reducible rfl)
              rotate_left
              ·exact cbb3_0
              exact norm_ pbb3_7 (hCont (gb110) _ ⟨hHeld, pbb3_3, pbb3_8, GW110.out, GE110.out, NB105_110.out, NB110_105.out, pbb3_9⟩)
            rintro gb110 w38 ⟨hS_, h0_, h1_, h2_, h3_, h4_, h5_, h6_⟩; have n0_ : Aside0 (w38.heap[gb105]? = some (.cells #[.int .u64 t103, .int .u64 t104] 63 (0, 0))) := ⟨h0_⟩; have n1_ : Aside0 (w38.heap[gb110]? = some (.cells #[.int .u64 0, .int .u64 0] 63 (0, 0))) := ⟨h1_⟩; have n2_ : Aside0 (w.heap.size ≤ gb110) := ⟨h2_⟩; have n3_ : Aside0 (w.heap.size ≤ gb110) := ⟨h3_⟩; have n4_ : Aside0 (gb105 ≠ gb110) := ⟨h4_⟩; have n5_ : Aside0 (gb110 ≠ gb105) := ⟨h5_⟩; have n6_ : Aside0 (Below w.heap.size w w38) := ⟨h6_⟩; clear BK105; clear HB; clear h0_ h1_ h2_ h3_ h4_ h5_ h6_; have BK105 := n0_; have BK110 := n1_; have GW110 := n2_; have GE110 := n3_; have NB105_110 := n4_; have NB110_105 := n5_; have HB := n6_; clear n0_ n1_ n2_ n3_ n4_ n5_ n6_; have hHeld : w38.cell? ⟨gb105, 0, none⟩ = some (.int .u64 t103) ∧ w38.cell? ⟨gb105, 1, none⟩ = some (.int .u64 t104) := hS_; refine norm_ (a' := ?_) ?_ ?_; rotate_left
            ·simp only [putAll, Act.put, List.setIfInBounds_toArray, List.set_cons_zero, List.set_cons_succ]
             rfl
            refine one_ (i := 8) (N := none) abb3_14 rfl rfl (one_of HT_.out (by kernel_rfl)) (by decide) (fun K hK => ?_); have hs39 : w38.cell? ⟨gb110, 0, none⟩ = some (.int .u64 0) := (blk_cell BK110.out 0).trans rfl; have hfs39 := blk_frozen BK110.out 0; have hns39_0 := NB105_110.out; have hms39_0 := NB110_105.out; have hs40 : w38.cell? ⟨gb110, 1, none⟩ = some (.int .u64 0) := (blk_cell BK110.out 1).trans rfl; have hfs40 := blk_frozen BK110.out 1; have hns40_0 := NB105_110.out; have hms40_0 := NB110_105.out; refine skip_ (w1 := ?_) (by rfl) rfl ?_ ?_; rotate_left
            ·go_simp
             rfl
            refine hK.out _ _ ⟨((cell_far (p := ⟨gb110, _, none⟩) NB105_110.out _).trans (((cell_far (p := ⟨gb110, _, none⟩) NB105_110.out _).trans (hHeld.1)))), ((cell_far (p := ⟨gb110, _, none⟩) NB105_110.out _).trans (((cell_far (p := ⟨gb110, _, none⟩) NB105_110.out _).trans (hHeld.2))))⟩ (fun hHeld => ?_); clear hK K; refine pure_ (i := 9) (N := some 13) (v := ?_) (a' := ?_) abb3_15 rfl rfl (any_of HT_.out (by kernel_rfl)) (fun _ _ _ h => h) (Or.inl ⟨by rfl, ?_⟩) ?_ ?_; rotate_left
            ·intro w'; go_simp; (with_reducible rfl)
            rotate_left
            ·exact cbb3_0
            refine done_ (done_of HT_.out (by kernel_rfl)) ?_; have hnb41 := NB110_105.out; have hnc41 := NB105_110.out; have hcz42_0 : w38.cell? ⟨gb110, 0, none⟩ = some (.int .u64 0) := (blk_cell BK110.out 0).trans rfl; have hcz42_1 : w38.cell? ⟨gb110, 1, none⟩ = some (.int .u64 0) := (blk_cell BK110.out 1).trans rfl; have hfz42_0 := blk_frozen BK110.out 0; have hfz42_1 := blk_frozen BK110.out 1; (try go_wp2_with (first | ((with_reducible refine gate_callee (f := 44) rfl ?_); refine goesL_ (some 60) rfl rfl Try.func44 (by kernel_rfl) rfl #[.int .i64 a2] rfl pbb3_0 ?_; (with_reducible refine (muldiv_magnitude.calls a2 t111 _ A22.out).mono ?_); rintro e w' ⟨rfl, ⟨nd, rfl⟩⟩; refine ⟨_, rfl, ?_⟩) | ((with_reducible refine gate_callee (f := 46) rfl ?_); refine goesL_ (some 61) rfl rfl Try.func46 (by kernel_rfl) rfl #[.int .i64 a3, .bool x11_11, .bool ((Int.tmod t108 2) == 1), .int .u64 t109, .int .u64 t111] rfl pbb3_0 ?_; (with_reducible refine (muldiv_away.calls a3 x11_11 ((Int.tmod t108 2) == 1) t109 t111 true _ A23.out).mono ?_); rintro e w' ⟨rfl, ⟨nd, rfl⟩⟩; refine ⟨_, rfl, ?_⟩) | ((with_reducible refine gate_callee (f := 47) rfl ?_); refine goesL_ (some 68) rfl rfl Try.func47 (by kernel_rfl) rfl #[.bool x11_11, .int .u64 (IntKind.u64.wrap (t108 + 1))] rfl pbb3_0 ?_; (with_reducible refine (muldiv_signed.calls x11_11 (IntKind.u64.wrap (t108 + 1)) t113 t114 _ A34.out).mono ?_); rintro e w' ⟨rfl, ⟨nd, rfl⟩⟩; refine ⟨_, rfl, ?_⟩)))
            go_ret2
            exact ⟨pbb2_6, pbb3_9⟩
          ·replace c24 := Bool.eq_false_iff.mpr c24; subst c24; have H1 : ((muldiv_signed.f x11_11 t108).bind fun bt115 => (some (bt115.1, bt115.2))) = some (r1, r2) := by rw [if_neg (show ¬ (false = true) by decide)] at H; exact H
           clear H; have H := H1; clear H1; replace H := Option.bind_eq_some_iff.mp H; obtain ⟨⟨t115, t116⟩, A430, H⟩ := H; replace H : (some (t115, t116)) = some (r1, r2) := H; have A43 := Aside0.mk A430; clear A430; simp only [Option.some.injEq, Prod.mk.injEq] at H; obtain ⟨rfl, rfl⟩ := H; (try go_wp2); have n0_ := Aside0.mk (blk_drew BK105.out); have n1_ := Aside0.mk (below_drew1 HB.out); clear BK105; clear HB; have BK105 := n0_; have HB := n1_; clear n0_ n1_; refine start_ (n := 10) (S := fun w' => w'.cell? ⟨gb105, 0, none⟩ = some (.int .u64 t103) ∧ w'.cell? ⟨gb105, 1, none⟩ = some (.int .u64 t104)) (ds := []) abb3_0 (by kernel_rfl) rfl rfl ⟨(blk_cell BK105.out 0).trans rfl, (blk_cell BK105.out 1).trans rfl⟩ (fun hHeld => ?_); refine with_tabW muldiv_MulDiv.tab7 muldiv_MulDiv.bits7 (fun HT_ HW_ => ?_); generalize wc.drew = w44 at BK105 HB hHeld ⊢; refine pure_ (i := 1) (N := some 43) (v := ?_) (a' := ?_) abb3_1 rfl rfl (any_of HT_.out (by kernel_rfl)) (fun _ _ _ h => h) (Or.inl ⟨by rfl, ?_⟩) ?_ ?_; rotate_left
           ·intro w'; go_simp; (with_reducible rfl)
           rotate_left
           ·exact cbb3_0
           refine take_ (i := 0) (N := some 42) (v := ?_) (a' := ?_) abb3_2 rfl rfl (take_ofW HT_.out HW_.out (by kernel_rfl)) (fun _ _ _ h => h) (Or.inl ⟨by rfl, ?_⟩) hHeld ?_ ?_; rotate_left
           ·rintro w' ⟨s0, s1⟩; go_simp; (with_reducible rfl)
           rotate_left
           ·exact cbb3_0
           refine join_ (σ := Nat) 2 abb3_13 (fun s_ => [(44, .int .u64 t106), (45, .tuple #[.agg #[.int .u64 t107, .int .u64 t108], .int .u64 t109]), (12, .pointer (some ⟨s_, 0, none⟩)), (41, .tuple #[.agg #[.int .u64 t107, .int .u64 t108], .int .u64 t109]), (46, .agg #[.int .u64 t107, .int .u64 t108]), (47, .int .u64 t109)]) (fun s_ w' => (w'.cell? ⟨gb105, 0, none⟩ = some (.int .u64 t103) ∧ w'.cell? ⟨gb105, 1, none⟩ = some (.int .u64 t104)) ∧ (w'.heap[gb105]? = some (.cells #[.int .u64 t103, .int .u64 t104] 63 (0, 0))) ∧ (w'.heap[s_]? = some (.cells #[.int .u64 0, .int .u64 0] 63 (0, 0))) ∧ (w.heap.size ≤ s_) ∧ (w.heap.size ≤ s_) ∧ (gb105 ≠ s_) ∧ (s_ ≠ gb105) ∧ (Below w.heap.size w w')) ?_ ?_; rotate_left
           ·intro hCont; refine two_ (i := 2) (j := 7) (Ni := some 44) (Nj := some 12) abb3_3 abb3_4 rfl rfl rfl rfl (two_of HT_.out (by kernel_rfl)) (by decide) (by decide) (fun K hK => ?_) (fun K hK => ?_)
            ·skip
             refine goes_ Try.func44 (by kernel_rfl) rfl #[.int .i64 a2] (by rfl) rfl rfl pbb3_0 ?_; (with_reducible refine (muldiv_magnitude.calls a2 t106 _ A19.out).mono ?_); rintro e w' ⟨rfl, ⟨nd, rfl⟩⟩; refine ⟨_, rfl, ?_⟩; refine hK.out _ _ ⟨(blk_cell BK105.out 0).trans rfl, (blk_cell BK105.out 1).trans rfl⟩ (fun hHeld => ?_); clear hK K; refine norm_ (a' := ?_) ?_ ?_; rotate_left
             ·show Act.put _ (some 44) _ = _; simp only [Act.put, List.setIfInBounds_toArray, List.set_cons_zero, List.set_cons_succ, i64_w, i32_w]
              rfl
             refine two_ (i := 3) (j := 7) (Ni := some 45) (Nj := some 12) abb3_5 abb3_6 rfl rfl rfl rfl (two_of HT_.out (by kernel_rfl)) (by decide) (by decide) (fun K hK => ?_) (fun K hK => ?_)
             ·skip
              refine goes_ Try.func45 (by kernel_rfl) rfl #[.agg #[.int .u64 t103, .int .u64 t104], .int .u64 t106] (by rfl) rfl rfl pbb3_0 ?_; (with_reducible refine (muldiv_divide.calls t103 t104 t106 t107 t108 t109 _ A20.out).mono ?_); rintro e w45 ⟨rfl, hb⟩; refine ⟨_, rfl, ?_⟩; have n0_ := Aside0.mk (blk_below (g := gb105) (o := .cells #[.int .u64 t103, .int .u64 t104] 63 (0, 0)) pbb3_3 hb); have n1_ := Aside0.mk (below_step pbb3_2 hb); clear BK105; clear HB; have BK105 := n0_; have HB := n1_; clear n0_ n1_; (try clear hb); (try clear hb2); (try clear hk); (try clear hi); refine hK.out _ _ ⟨(blk_cell BK105.out 0).trans rfl, (blk_cell BK105.out 1).trans rfl⟩ (fun hHeld => ?_); clear hK K; refine norm_ (a' := ?_) ?_ ?_; rotate_left
              ·show Act.put _ (some 45) _ = _; simp only [Act.put, List.setIfInBounds_toArray, List.set_cons_zero, List.set_cons_succ, i64_w, i32_w]
               rfl
              refine pure_ (i := 4) (N := some 41) (v := ?_) (a' := ?_) abb3_7 rfl rfl (any_of HT_.out (by kernel_rfl)) (fun _ _ _ h => h) (Or.inl ⟨by rfl, ?_⟩) ?_ ?_; rotate_left
              ·intro w'; go_simp; (with_reducible rfl)
              rotate_left
              ·exact cbb3_0
              refine pure_ (i := 5) (N := some 46) (v := ?_) (a' := ?_) abb3_9 rfl rfl (any_of HT_.out (by kernel_rfl)) (fun _ _ _ h => h) (Or.inl ⟨by rfl, ?_⟩) ?_ ?_; rotate_left
              ·intro w'; go_simp; (with_reducible rfl)
              rotate_left
              ·exact cbb3_0
              refine pure_ (i := 6) (N := some 47) (v := ?_) (a' := ?_) abb3_11 rfl rfl (any_of HT_.out (by kernel_rfl)) (fun _ _ _ h => h) (Or.inl ⟨by rfl, ?_⟩) ?_ ?_; rotate_left
              ·intro w'; go_simp; (with_reducible rfl)
              rotate_left
              ·exact cbb3_0
              refine one_ (i := 7) (N := some 12) abb3_13 rfl rfl (one_of HT_.out (by kernel_rfl)) (by decide) (fun K hK => ?_); refine box_step ?hg (N := 12) ?hd (cs := #[.int .u64 0, .int .u64 0]) (t := 63) ?hr ?_; (case hd => rfl); (case hg => rfl); (case hr => first | (go_simp; done) | (go_simp; rfl)); intro gb110 hg w46 hbox hb; have n0_ := Aside0.mk (blk_below (g := gb105) (o := .cells #[.int .u64 t103, .int .u64 t104] 63 (0, 0)) pbb3_3 hb); have n1_ := Aside0.mk (below_step pbb3_2 hb); have n2_ := Aside0.mk (hbox); have n3_ := Aside0.mk ((pbb3_4 : w.heap.size ≤ gb110)); have n4_ := Aside0.mk ((pbb3_4 : w.heap.size ≤ gb110)); have n5_ := Aside0.mk ((pbb3_5 : gb105 ≠ gb110)); have n6_ := Aside0.mk ((pbb3_6 : gb110 ≠ gb105)); clear BK105; clear HB; have BK105 := n0_; have HB := n1_; have BK110 := n2_; have GW110 := n3_; have GE110 := n4_; have NB105_110 := n5_; have NB110_105 := n6_; clear n0_ n1_ n2_ n3_ n4_ n5_ n6_; clear hb hbox hg; refine hK.out _ _ ⟨(blk_cell BK105.out 0).trans rfl, (blk_cell BK105.out 1).trans rfl⟩ (fun hHeld => ?_); clear hK K; refine norm_ (a' := ?_) ?_ ?_; rotate_left
              ·show Act.put _ (some 12) _ = _; simp only [Act.put, List.setIfInBounds_toArray, List.set_cons_zero, List.set_cons_succ, i64_w, i32_w]
               rfl
              exact norm_ pbb3_7 (hCont (gb110) _ ⟨hHeld, pbb3_3, pbb3_8, GW110.out, GE110.out, NB105_110.out, NB110_105.out, pbb3_9⟩)
             ·skip
              refine box_step ?hg (N := 12) ?hd (cs := #[.int .u64 0, .int .u64 0]) (t := 63) ?hr ?_; (case hd => rfl); (case hg => rfl); (case hr => first | (go_simp; done) | (go_simp; rfl)); intro gb110 hg w45 hbox hb; have n0_ := Aside0.mk (blk_below (g := gb105) (o := .cells #[.int .u64 t103, .int .u64 t104] 63 (0, 0)) pbb3_3 hb); have n1_ := Aside0.mk (below_step pbb3_2 hb); have n2_ := Aside0.mk (hbox); have n3_ := Aside0.mk ((pbb3_4 : w.heap.size ≤ gb110)); have n4_ := Aside0.mk ((pbb3_4 : w.heap.size ≤ gb110)); have n5_ := Aside0.mk ((pbb3_5 : gb105 ≠ gb110)); have n6_ := Aside0.mk ((pbb3_6 : gb110 ≠ gb105)); clear BK105; clear HB; have BK105 := n0_; have HB := n1_; have BK110 := n2_; have GW110 := n3_; have GE110 := n4_; have NB105_110 := n5_; have NB110_105 := n6_; clear n0_ n1_ n2_ n3_ n4_ n5_ n6_; clear hb hbox hg; refine hK.out _ _ ⟨(blk_cell BK105.out 0).trans rfl, (blk_cell BK105.out 1).trans rfl⟩ (fun hHeld => ?_); clear hK K; refine norm_ (a' := ?_) ?_ ?_; rotate_left
              ·show Act.put _ (some 12) _ = _; simp only [Act.put, List.setIfInBounds_toArray, List.set_cons_zero, List.set_cons_succ, i64_w, i32_w]
               rfl
              refine one_ (i := 3) (N := some 45) abb3_8 rfl rfl (one_of HT_.out (by kernel_rfl)) (by decide) (fun K hK => ?_); refine goes_ Try.func45 (by kernel_rfl) rfl #[.agg #[.int .u64 t103, .int .u64 t104], .int .u64 t106] (by rfl) rfl rfl pbb3_0 ?_; (with_reducible refine (muldiv_divide.calls t103 t104 t106 t107 t108 t109 _ A20.out).mono ?_); rintro e w46 ⟨rfl, hb⟩; refine ⟨_, rfl, ?_⟩; have n0_ := Aside0.mk (blk_below (g := gb105) (o := .cells #[.int .u64 t103, .int .u64 t104] 63 (0, 0)) pbb3_3 hb); have n1_ := Aside0.mk (blk_below (g := gb110) (o := .cells #[.int .u64 0, .int .u64 0] 63 (0, 0)) pbb3_8 hb); have n2_ := Aside0.mk (below_step pbb3_9 hb); clear BK105; clear BK110; clear HB; have BK105 := n0_; have BK110 := n1_; have HB := n2_; clear n0_ n1_ n2_; (try clear hb); (try clear hb2); (try clear hk); (try clear hi); refine hK.out _ _ ⟨(blk_cell BK105.out 0).trans rfl, (blk_cell BK105.out 1).trans rfl⟩ (fun hHeld => ?_); clear hK K; refine norm_ (a' := ?_) ?_ ?_; rotate_left
              ·show Act.put _ (some 45) _ = _; simp only [Act.put, List.setIfInBounds_toArray, List.set_cons_zero, List.set_cons_succ, i64_w, i32_w]
               rfl
              refine pure_ (i := 4) (N := some 41) (v := ?_) (a' := ?_) abb3_10 rfl rfl (any_of HT_.out (by kernel_rfl)) (fun _ _ _ h => h) (Or.inl ⟨by rfl, ?_⟩) ?_ ?_; rotate_left
              ·intro w'; go_simp; (with_reducible rfl)
              rotate_left
              ·exact cbb3_0
              refine pure_ (i := 5) (N := some 46) (v := ?_) (a' := ?_) abb3_12 rfl rfl (any_of HT_.out (by kernel_rfl)) (fun _ _ _ h => h) (Or.inl ⟨by rfl, ?_⟩) ?_ ?_; rotate_left
              ·intro w'; go_simp; (with_reducible rfl)
              rotate_left
              ·exact cbb3_0
              refine pure_ (i := 6) (N := some 47) (v := ?_) (a' := ?_) abb3_13 rfl rfl (any_of HT_.out (by kernel_rfl)) (fun _ _ _ h => h) (Or.inl ⟨by rfl, ?_⟩) ?_ ?_; rotate_left
              ·intro w'; go_simp; (with_reducible rfl)
              rotate_left
              ·exact cbb3_0
              exact norm_ pbb3_7 (hCont (gb110) _ ⟨hHeld, pbb3_3, pbb3_8, GW110.out, GE110.out, NB105_110.out, NB110_105.out, pbb3_9⟩)
            ·skip
             refine box_step ?hg (N := 12) ?hd (cs := #[.int .u64 0, .int .u64 0]) (t := 63) ?hr ?_; (case hd => rfl); (case hg => rfl); (case hr => first | (go_simp; done) | (go_simp; rfl)); intro gb110 hg w45 hbox hb; have n0_ := Aside0.mk (blk_below (g := gb105) (o := .cells #[.int .u64 t103, .int .u64 t104] 63 (0, 0)) pbb3_3 hb); have n1_ := Aside0.mk (below_step pbb3_2 hb); have n2_ := Aside0.mk (hbox); have n3_ := Aside0.mk ((pbb3_4 : w.heap.size ≤ gb110)); have n4_ := Aside0.mk ((pbb3_4 : w.heap.size ≤ gb110)); have n5_ := Aside0.mk ((pbb3_5 : gb105 ≠ gb110)); have n6_ := Aside0.mk ((pbb3_6 : gb110 ≠ gb105)); clear BK105; clear HB; have BK105 := n0_; have HB := n1_; have BK110 := n2_; have GW110 := n3_; have GE110 := n4_; have NB105_110 := n5_; have NB110_105 := n6_; clear n0_ n1_ n2_ n3_ n4_ n5_ n6_; clear hb hbox hg; refine hK.out _ _ ⟨(blk_cell BK105.out 0).trans rfl, (blk_cell BK105.out 1).trans rfl⟩ (fun hHeld => ?_); clear hK K; refine norm_ (a' := ?_) ?_ ?_; rotate_left
             ·show Act.put _ (some 12) _ = _; simp only [Act.put, List.setIfInBounds_toArray, List.set_cons_zero, List.set_cons_succ, i64_w, i32_w]
              rfl
             refine one_ (i := 2) (N := some 44) abb3_6 rfl rfl (one_of HT_.out (by kernel_rfl)) (by decide) (fun K hK => ?_); refine goes_ Try.func44 (by kernel_rfl) rfl #[.int .i64 a2] (by rfl) rfl rfl pbb3_0 ?_; (with_reducible refine (muldiv_magnitude.calls a2 t106 _ A19.out).mono ?_); rintro e w' ⟨rfl, ⟨nd, rfl⟩⟩; refine ⟨_, rfl, ?_⟩; refine hK.out _ _ ⟨(blk_cell BK105.out 0).trans rfl, (blk_cell BK105.out 1).trans rfl⟩ (fun hHeld => ?_); clear hK K; refine norm_ (a' := ?_) ?_ ?_; rotate_left
             ·show Act.put _ (some 44) _ = _; simp only [Act.put, List.setIfInBounds_toArray, List.set_cons_zero, List.set_cons_succ, i64_w, i32_w]
              rfl
             refine one_ (i := 3) (N := some 45) abb3_8 rfl rfl (one_of HT_.out (by kernel_rfl)) (by decide) (fun K hK => ?_); refine goes_ Try.func45 (by kernel_rfl) rfl #[.agg #[.int .u64 t103, .int .u64 t104], .int .u64 t106] (by rfl) rfl rfl pbb3_0 ?_; (with_reducible refine (muldiv_divide.calls t103 t104 t106 t107 t108 t109 _ A20.out).mono ?_); rintro e w46 ⟨rfl, hb⟩; refine ⟨_, rfl, ?_⟩; have n0_ := Aside0.mk (blk_below (g := gb105) (o := .cells #[.int .u64 t103, .int .u64 t104] 63 (0, 0)) pbb3_3 hb); have n1_ := Aside0.mk (blk_below (g := gb110) (o := .cells #[.int .u64 0, .int .u64 0] 63 (0, 0)) pbb3_8 hb); have n2_ := Aside0.mk (below_step pbb3_9 hb); clear BK105; clear BK110; clear HB; have BK105 := n0_; have BK110 := n1_; have HB := n2_; clear n0_ n1_ n2_; (try clear hb); (try clear hb2); (try clear hk); (try clear hi); refine hK.out _ _ ⟨(blk_cell BK105.out 0).trans rfl, (blk_cell BK105.out 1).trans rfl⟩ (fun hHeld => ?_); clear hK K; refine norm_ (a' := ?_) ?_ ?_; rotate_left
             ·show Act.put _ (some 45) _ = _; simp only [Act.put, List.setIfInBounds_toArray, List.set_cons_zero, List.set_cons_succ, i64_w, i32_w]
              rfl
             refine pure_ (i := 4) (N := some 41) (v := ?_) (a' := ?_) abb3_10 rfl rfl (any_of HT_.out (by kernel_rfl)) (fun _ _ _ h => h) (Or.inl ⟨by rfl, ?_⟩) ?_ ?_; rotate_left
             ·intro w'; go_simp; (with_reducible rfl)
             rotate_left
             ·exact cbb3_0
             refine pure_ (i := 5) (N := some 46) (v := ?_) (a' := ?_) abb3_12 rfl rfl (any_of HT_.out (by kernel_rfl)) (fun _ _ _ h => h) (Or.inl ⟨by rfl, ?_⟩) ?_ ?_; rotate_left
             ·intro w'; go_simp; (with_reducible rfl)
             rotate_left
             ·exact cbb3_0
             refine pure_ (i := 6) (N := some 47) (v := ?_) (a' := ?_) abb3_13 rfl rfl (any_of HT_.out (by kernel_rfl)) (fun _ _ _ h => h) (Or.inl ⟨by rfl, ?_⟩) ?_ ?_; rotate_left
             ·intro w'; go_simp; (with_reducible rfl)
             rotate_left
             ·exact cbb3_0
             exact norm_ pbb3_7 (hCont (gb110) _ ⟨hHeld, pbb3_3, pbb3_8, GW110.out, GE110.out, NB105_110.out, NB110_105.out, pbb3_9⟩)
           rintro gb110 w47 ⟨hS_, h0_, h1_, h2_, h3_, h4_, h5_, h6_⟩; have n0_ : Aside0 (w47.heap[gb105]? = some (.cells #[.int .u64 t103, .int .u64 t104] 63 (0, 0))) := ⟨h0_⟩; have n1_ : Aside0 (w47.heap[gb110]? = some (.cells #[.int .u64 0, .int .u64 0] 63 (0, 0))) := ⟨h1_⟩; have n2_ : Aside0 (w.heap.size ≤ gb110) := ⟨h2_⟩; have n3_ : Aside0 (w.heap.size ≤ gb110) := ⟨h3_⟩; have n4_ : Aside0 (gb105 ≠ gb110) := ⟨h4_⟩; have n5_ : Aside0 (gb110 ≠ gb105) := ⟨h5_⟩; have n6_ : Aside0 (Below w.heap.size w w47) := ⟨h6_⟩; clear BK105; clear HB; clear h0_ h1_ h2_ h3_ h4_ h5_ h6_; have BK105 := n0_; have BK110 := n1_; have GW110 := n2_; have GE110 := n3_; have NB105_110 := n4_; have NB110_105 := n5_; have HB := n6_; clear n0_ n1_ n2_ n3_ n4_ n5_ n6_; have hHeld : w47.cell? ⟨gb105, 0, none⟩ = some (.int .u64 t103) ∧ w47.cell? ⟨gb105, 1, none⟩ = some (.int .u64 t104) := hS_; refine norm_ (a' := ?_) ?_ ?_; rotate_left
           ·simp only [putAll, Act.put, List.setIfInBounds_toArray, List.set_cons_zero, List.set_cons_succ]
            rfl
           refine one_ (i := 8) (N := none) abb3_14 rfl rfl (one_of HT_.out (by kernel_rfl)) (by decide) (fun K hK => ?_); have hs48 : w47.cell? ⟨gb110, 0, none⟩ = some (.int .u64 0) := (blk_cell BK110.out 0).trans rfl; have hfs48 := blk_frozen BK110.out 0; have hns48_0 := NB105_110.out; have hms48_0 := NB110_105.out; have hs49 : w47.cell? ⟨gb110, 1, none⟩ = some (.int .u64 0) := (blk_cell BK110.out 1).trans rfl; have hfs49 := blk_frozen BK110.out 1; have hns49_0 := NB105_110.out; have hms49_0 := NB110_105.out; refine skip_ (w1 := ?_) (by rfl) rfl ?_ ?_; rotate_left
           ·go_simp
            rfl
           refine hK.out _ _ ⟨((cell_far (p := ⟨gb110, _, none⟩) NB105_110.out _).trans (((cell_far (p := ⟨gb110, _, none⟩) NB105_110.out _).trans (hHeld.1)))), ((cell_far (p := ⟨gb110, _, none⟩) NB105_110.out _).trans (((cell_far (p := ⟨gb110, _, none⟩) NB105_110.out _).trans (hHeld.2))))⟩ (fun hHeld => ?_); clear hK K; refine pure_ (i := 9) (N := some 13) (v := ?_) (a' := ?_) abb3_15 rfl rfl (any_of HT_.out (by kernel_rfl)) (fun _ _ _ h => h) (Or.inl ⟨by rfl, ?_⟩) ?_ ?_; rotate_left
           ·intro w'; go_simp; (with_reducible rfl)
           rotate_left
           ·exact cbb3_0
           refine done_ (done_of HT_.out (by kernel_rfl)) ?_; have hnb50 := NB110_105.out; have hnc50 := NB105_110.out; have hcz51_0 : w47.cell? ⟨gb110, 0, none⟩ = some (.int .u64 0) := (blk_cell BK110.out 0).trans rfl; have hcz51_1 : w47.cell? ⟨gb110, 1, none⟩ = some (.int .u64 0) := (blk_cell BK110.out 1).trans rfl; have hfz51_0 := blk_frozen BK110.out 0; have hfz51_1 := blk_frozen BK110.out 1; (try go_wp2_with (first | ((with_reducible refine gate_callee (f := 44) rfl ?_); refine goesL_ (some 60) rfl rfl Try.func44 (by kernel_rfl) rfl #[.int .i64 a2] rfl pbb3_0 ?_; (with_reducible refine (muldiv_magnitude.calls a2 t111 _ A22.out).mono ?_); rintro e w' ⟨rfl, ⟨nd, rfl⟩⟩; refine ⟨_, rfl, ?_⟩) | ((with_reducible refine gate_callee (f := 46) rfl ?_); refine goesL_ (some 61) rfl rfl Try.func46 (by kernel_rfl) rfl #[.int .i64 a3, .bool x11_11, .bool ((Int.tmod t108 2) == 1), .int .u64 t109, .int .u64 t111] rfl pbb3_0 ?_; (with_reducible refine (muldiv_away.calls a3 x11_11 ((Int.tmod t108 2) == 1) t109 t111 false _ A23.out).mono ?_); rintro e w' ⟨rfl, ⟨nd, rfl⟩⟩; refine ⟨_, rfl, ?_⟩) | ((with_reducible refine gate_callee (f := 47) rfl ?_); refine goesL_ (some 68) rfl rfl Try.func47 (by kernel_rfl) rfl #[.bool x11_11, .int .u64 t108] rfl pbb3_0 ?_; (with_reducible refine (muldiv_signed.calls x11_11 t108 t115 t116 _ A43.out).mono ?_); rintro e w' ⟨rfl, ⟨nd, rfl⟩⟩; refine ⟨_, rfl, ?_⟩)))
           go_ret2
           exact ⟨pbb2_6, pbb3_9⟩
         ·rw [if_neg c21] at H; have c21b0 : (t107 == 0) = false := beq_eq_false_iff_ne.mpr c21; have c21b1 : (t107 != 0) = true := bne_iff_ne.mpr c21; simp only [Option.some.injEq, Prod.mk.injEq] at H; obtain ⟨rfl, rfl⟩ := H; (try go_wp2); have n0_ := Aside0.mk (blk_drew BK105.out); have n1_ := Aside0.mk (below_drew1 HB.out); clear BK105; clear HB; have BK105 := n0_; have HB := n1_; clear n0_ n1_; refine start_ (n := 10) (S := fun w' => w'.cell? ⟨gb105, 0, none⟩ = some (.int .u64 t103) ∧ w'.cell? ⟨gb105, 1, none⟩ = some (.int .u64 t104)) (ds := []) abb3_0 (by kernel_rfl) rfl rfl ⟨(blk_cell BK105.out 0).trans rfl, (blk_cell BK105.out 1).trans rfl⟩ (fun hHeld => ?_); refine with_tabW muldiv_MulDiv.tab7 muldiv_MulDiv.bits7 (fun HT_ HW_ => ?_); generalize wc.drew = w52 at BK105 HB hHeld ⊢; refine pure_ (i := 1) (N := some 43) (v := ?_) (a' := ?_) abb3_1 rfl rfl (any_of HT_.out (by kernel_rfl)) (fun _ _ _ h => h) (Or.inl ⟨by rfl, ?_⟩) ?_ ?_; rotate_left
          ·intro w'; go_simp; (with_reducible rfl)
          rotate_left
          ·exact cbb3_0
          refine take_ (i := 0) (N := some 42) (v := ?_) (a' := ?_) abb3_2 rfl rfl (take_ofW HT_.out HW_.out (by kernel_rfl)) (fun _ _ _ h => h) (Or.inl ⟨by rfl, ?_⟩) hHeld ?_ ?_; rotate_left
          ·rintro w' ⟨s0, s1⟩; go_simp; (with_reducible rfl)
          rotate_left
          ·exact cbb3_0
          refine join_ (σ := Nat) 2 abb3_13 (fun s_ => [(44, .int .u64 t106), (45, .tuple #[.agg #[.int .u64 t107, .int .u64 t108], .int .u64 t109]), (12, .pointer (some ⟨s_, 0, none⟩)), (41, .tuple #[.agg #[.int .u64 t107, .int .u64 t108], .int .u64 t109]), (46, .agg #[.int .u64 t107, .int .u64 t108]), (47, .int .u64 t109)]) (fun s_ w' => (w'.cell? ⟨gb105, 0, none⟩ = some (.int .u64 t103) ∧ w'.cell? ⟨gb105, 1, none⟩ = some (.int .u64 t104)) ∧ (w'.heap[gb105]? = some (.cells #[.int .u64 t103, .int .u64 t104] 63 (0, 0))) ∧ (w'.heap[s_]? = some (.cells #[.int .u64 0, .int .u64 0] 63 (0, 0))) ∧ (w.heap.size ≤ s_) ∧ (w.heap.size ≤ s_) ∧ (gb105 ≠ s_) ∧ (s_ ≠ gb105) ∧ (Below w.heap.size w w')) ?_ ?_; rotate_left
          ·intro hCont; refine two_ (i := 2) (j := 7) (Ni := some 44) (Nj := some 12) abb3_3 abb3_4 rfl rfl rfl rfl (two_of HT_.out (by kernel_rfl)) (by decide) (by decide) (fun K hK => ?_) (fun K hK => ?_)
           ·skip
            refine goes_ Try.func44 (by kernel_rfl) rfl #[.int .i64 a2] (by rfl) rfl rfl pbb3_0 ?_; (with_reducible refine (muldiv_magnitude.calls a2 t106 _ A19.out).mono ?_); rintro e w' ⟨rfl, ⟨nd, rfl⟩⟩; refine ⟨_, rfl, ?_⟩; refine hK.out _ _ ⟨(blk_cell BK105.out 0).trans rfl, (blk_cell BK105.out 1).trans rfl⟩ (fun hHeld => ?_); clear hK K; refine norm_ (a' := ?_) ?_ ?_; rotate_left
            ·show Act.put _ (some 44) _ = _; simp only [Act.put, List.setIfInBounds_toArray, List.set_cons_zero, List.set_cons_succ, i64_w, i32_w]
             rfl
            refine two_ (i := 3) (j := 7) (Ni := some 45) (Nj := some 12) abb3_5 abb3_6 rfl rfl rfl rfl (two_of HT_.out (by kernel_rfl)) (by decide) (by decide) (fun K hK => ?_) (fun K hK => ?_)
            ·skip
             refine goes_ Try.func45 (by kernel_rfl) rfl #[.agg #[.int .u64 t103, .int .u64 t104], .int .u64 t106] (by rfl) rfl rfl pbb3_0 ?_; (with_reducible refine (muldiv_divide.calls t103 t104 t106 t107 t108 t109 _ A20.out).mono ?_); rintro e w53 ⟨rfl, hb⟩; refine ⟨_, rfl, ?_⟩; have n0_ := Aside0.mk (blk_below (g := gb105) (o := .cells #[.int .u64 t103, .int .u64 t104] 63 (0, 0)) pbb3_3 hb); have n1_ := Aside0.mk (below_step pbb3_2 hb); clear BK105; clear HB; have BK105 := n0_; have HB := n1_; clear n0_ n1_; (try clear hb); (try clear hb2); (try clear hk); (try clear hi); refine hK.out _ _ ⟨(blk_cell BK105.out 0).trans rfl, (blk_cell BK105.out 1).trans rfl⟩ (fun hHeld => ?_); clear hK K; refine norm_ (a' := ?_) ?_ ?_; rotate_left
             ·show Act.put _ (some 45) _ = _; simp only [Act.put, List.setIfInBounds_toArray, List.set_cons_zero, List.set_cons_succ, i64_w, i32_w]
              rfl
             refine pure_ (i := 4) (N := some 41) (v := ?_) (a' := ?_) abb3_7 rfl rfl (any_of HT_.out (by kernel_rfl)) (fun _ _ _ h => h) (Or.inl ⟨by rfl, ?_⟩) ?_ ?_; rotate_left
             ·intro w'; go_simp; (with_reducible rfl)
             rotate_left
             ·exact cbb3_0
             refine pure_ (i := 5) (N := some 46) (v := ?_) (a' := ?_) abb3_9 rfl rfl (any_of HT_.out (by kernel_rfl)) (fun _ _ _ h => h) (Or.inl ⟨by rfl, ?_⟩) ?_ ?_; rotate_left
             ·intro w'; go_simp; (with_reducible rfl)
             rotate_left
             ·exact cbb3_0
             refine pure_ (i := 6) (N := some 47) (v := ?_) (a' := ?_) abb3_11 rfl rfl (any_of HT_.out (by kernel_rfl)) (fun _ _ _ h => h) (Or.inl ⟨by rfl, ?_⟩) ?_ ?_; rotate_left
             ·intro w'; go_simp; (with_reducible rfl)
             rotate_left
             ·exact cbb3_0
             refine one_ (i := 7) (N := some 12) abb3_13 rfl rfl (one_of HT_.out (by kernel_rfl)) (by decide) (fun K hK => ?_); refine box_step ?hg (N := 12) ?hd (cs := #[.int .u64 0, .int .u64 0]) (t := 63) ?hr ?_; (case hd => rfl); (case hg => rfl); (case hr => first | (go_simp; done) | (go_simp; rfl)); intro gb110 hg w54 hbox hb; have n0_ := Aside0.mk (blk_below (g := gb105) (o := .cells #[.int .u64 t103, .int .u64 t104] 63 (0, 0)) pbb3_3 hb); have n1_ := Aside0.mk (below_step pbb3_2 hb); have n2_ := Aside0.mk (hbox); have n3_ := Aside0.mk ((pbb3_4 : w.heap.size ≤ gb110)); have n4_ := Aside0.mk ((pbb3_4 : w.heap.size ≤ gb110)); have n5_ := Aside0.mk ((pbb3_5 : gb105 ≠ gb110)); have n6_ := Aside0.mk ((pbb3_6 : gb110 ≠ gb105)); clear BK105; clear HB; have BK105 := n0_; have HB := n1_; have BK110 := n2_; have GW110 := n3_; have GE110 := n4_; have NB105_110 := n5_; have NB110_105 := n6_; clear n0_ n1_ n2_ n3_ n4_ n5_ n6_; clear hb hbox hg; refine hK.out _ _ ⟨(blk_cell BK105.out 0).trans rfl, (blk_cell BK105.out 1).trans rfl⟩ (fun hHeld => ?_); clear hK K; refine norm_ (a' := ?_) ?_ ?_; rotate_left
             ·show Act.put _ (some 12) _ = _; simp only [Act.put, List.setIfInBounds_toArray, List.set_cons_zero, List.set_cons_succ, i64_w, i32_w]
              rfl
             exact norm_ pbb3_7 (hCont (gb110) _ ⟨hHeld, pbb3_3, pbb3_8, GW110.out, GE110.out, NB105_110.out, NB110_105.out, pbb3_9⟩)
            ·skip
             refine box_step ?hg (N := 12) ?hd (cs := #[.int .u64 0, .int .u64 0]) (t := 63) ?hr ?_; (case hd => rfl); (case hg => rfl); (case hr => first | (go_simp; done) | (go_simp; rfl)); intro gb110 hg w53 hbox hb; have n0_ := Aside0.mk (blk_below (g := gb105) (o := .cells #[.int .u64 t103, .int .u64 t104] 63 (0, 0)) pbb3_3 hb); have n1_ := Aside0.mk (below_step pbb3_2 hb); have n2_ := Aside0.mk (hbox); have n3_ := Aside0.mk ((pbb3_4 : w.heap.size ≤ gb110)); have n4_ := Aside0.mk ((pbb3_4 : w.heap.size ≤ gb110)); have n5_ := Aside0.mk ((pbb3_5 : gb105 ≠ gb110)); have n6_ := Aside0.mk ((pbb3_6 : gb110 ≠ gb105)); clear BK105; clear HB; have BK105 := n0_; have HB := n1_; have BK110 := n2_; have GW110 := n3_; have GE110 := n4_; have NB105_110 := n5_; have NB110_105 := n6_; clear n0_ n1_ n2_ n3_ n4_ n5_ n6_; clear hb hbox hg; refine hK.out _ _ ⟨(blk_cell BK105.out 0).trans rfl, (blk_cell BK105.out 1).trans rfl⟩ (fun hHeld => ?_); clear hK K; refine norm_ (a' := ?_) ?_ ?_; rotate_left
             ·show Act.put _ (some 12) _ = _; simp only [Act.put, List.setIfInBounds_toArray, List.set_cons_zero, List.set_cons_succ, i64_w, i32_w]
              rfl
             refine one_ (i := 3) (N := some 45) abb3_8 rfl rfl (one_of HT_.out (by kernel_rfl)) (by decide) (fun K hK => ?_); refine goes_ Try.func45 (by kernel_rfl) rfl #[.agg #[.int .u64 t103, .int .u64 t104], .int .u64 t106] (by rfl) rfl rfl pbb3_0 ?_; (with_reducible refine (muldiv_divide.calls t103 t104 t106 t107 t108 t109 _ A20.out).mono ?_); rintro e w54 ⟨rfl, hb⟩; refine ⟨_, rfl, ?_⟩; have n0_ := Aside0.mk (blk_below (g := gb105) (o := .cells #[.int .u64 t103, .int .u64 t104] 63 (0, 0)) pbb3_3 hb); have n1_ := Aside0.mk (blk_below (g := gb110) (o := .cells #[.int .u64 0, .int .u64 0] 63 (0, 0)) pbb3_8 hb); have n2_ := Aside0.mk (below_step pbb3_9 hb); clear BK105; clear BK110; clear HB; have BK105 := n0_; have BK110 := n1_; have HB := n2_; clear n0_ n1_ n2_; (try clear hb); (try clear hb2); (try clear hk); (try clear hi); refine hK.out _ _ ⟨(blk_cell BK105.out 0).trans rfl, (blk_cell BK105.out 1).trans rfl⟩ (fun hHeld => ?_); clear hK K; refine norm_ (a' := ?_) ?_ ?_; rotate_left
             ·show Act.put _ (some 45) _ = _; simp only [Act.put, List.setIfInBounds_toArray, List.set_cons_zero, List.set_cons_succ, i64_w, i32_w]
              rfl
             refine pure_ (i := 4) (N := some 41) (v := ?_) (a' := ?_) abb3_10 rfl rfl (any_of HT_.out (by kernel_rfl)) (fun _ _ _ h => h) (Or.inl ⟨by rfl, ?_⟩) ?_ ?_; rotate_left
             ·intro w'; go_simp; (with_reducible rfl)
             rotate_left
             ·exact cbb3_0
             refine pure_ (i := 5) (N := some 46) (v := ?_) (a' := ?_) abb3_12 rfl rfl (any_of HT_.out (by kernel_rfl)) (fun _ _ _ h => h) (Or.inl ⟨by rfl, ?_⟩) ?_ ?_; rotate_left
             ·intro w'; go_simp; (with_reducible rfl)
             rotate_left
             ·exact cbb3_0
             refine pure_ (i := 6) (N := some 47) (v := ?_) (a' := ?_) abb3_13 rfl rfl (any_of HT_.out (by kernel_rfl)) (fun _ _ _ h => h) (Or.inl ⟨by rfl, ?_⟩) ?_ ?_; rotate_left
             ·intro w'; go_simp; (with_reducible rfl)
             rotate_left
             ·exact cbb3_0
             exact norm_ pbb3_7 (hCont (gb110) _ ⟨hHeld, pbb3_3, pbb3_8, GW110.out, GE110.out, NB105_110.out, NB110_105.out, pbb3_9⟩)
           ·skip
            refine box_step ?hg (N := 12) ?hd (cs := #[.int .u64 0, .int .u64 0]) (t := 63) ?hr ?_; (case hd => rfl); (case hg => rfl); (case hr => first | (go_simp; done) | (go_simp; rfl)); intro gb110 hg w53 hbox hb; have n0_ := Aside0.mk (blk_below (g := gb105) (o := .cells #[.int .u64 t103, .int .u64 t104] 63 (0, 0)) pbb3_3 hb); have n1_ := Aside0.mk (below_step pbb3_2 hb); have n2_ := Aside0.mk (hbox); have n3_ := Aside0.mk ((pbb3_4 : w.heap.size ≤ gb110)); have n4_ := Aside0.mk ((pbb3_4 : w.heap.size ≤ gb110)); have n5_ := Aside0.mk ((pbb3_5 : gb105 ≠ gb110)); have n6_ := Aside0.mk ((pbb3_6 : gb110 ≠ gb105)); clear BK105; clear HB; have BK105 := n0_; have HB := n1_; have BK110 := n2_; have GW110 := n3_; have GE110 := n4_; have NB105_110 := n5_; have NB110_105 := n6_; clear n0_ n1_ n2_ n3_ n4_ n5_ n6_; clear hb hbox hg; refine hK.out _ _ ⟨(blk_cell BK105.out 0).trans rfl, (blk_cell BK105.out 1).trans rfl⟩ (fun hHeld => ?_); clear hK K; refine norm_ (a' := ?_) ?_ ?_; rotate_left
            ·show Act.put _ (some 12) _ = _; simp only [Act.put, List.setIfInBounds_toArray, List.set_cons_zero, List.set_cons_succ, i64_w, i32_w]
             rfl
            refine one_ (i := 2) (N := some 44) abb3_6 rfl rfl (one_of HT_.out (by kernel_rfl)) (by decide) (fun K hK => ?_); refine goes_ Try.func44 (by kernel_rfl) rfl #[.int .i64 a2] (by rfl) rfl rfl pbb3_0 ?_; (with_reducible refine (muldiv_magnitude.calls a2 t106 _ A19.out).mono ?_); rintro e w' ⟨rfl, ⟨nd, rfl⟩⟩; refine ⟨_, rfl, ?_⟩; refine hK.out _ _ ⟨(blk_cell BK105.out 0).trans rfl, (blk_cell BK105.out 1).trans rfl⟩ (fun hHeld => ?_); clear hK K; refine norm_ (a' := ?_) ?_ ?_; rotate_left
            ·show Act.put _ (some 44) _ = _; simp only [Act.put, List.setIfInBounds_toArray, List.set_cons_zero, List.set_cons_succ, i64_w, i32_w]
             rfl
            refine one_ (i := 3) (N := some 45) abb3_8 rfl rfl (one_of HT_.out (by kernel_rfl)) (by decide) (fun K hK => ?_); refine goes_ Try.func45 (by kernel_rfl) rfl #[.agg #[.int .u64 t103, .int .u64 t104], .int .u64 t106] (by rfl) rfl rfl pbb3_0 ?_; (with_reducible refine (muldiv_divide.calls t103 t104 t106 t107 t108 t109 _ A20.out).mono ?_); rintro e w54 ⟨rfl, hb⟩; refine ⟨_, rfl, ?_⟩; have n0_ := Aside0.mk (blk_below (g := gb105) (o := .cells #[.int .u64 t103, .int .u64 t104] 63 (0, 0)) pbb3_3 hb); have n1_ := Aside0.mk (blk_below (g := gb110) (o := .cells #[.int .u64 0, .int .u64 0] 63 (0, 0)) pbb3_8 hb); have n2_ := Aside0.mk (below_step pbb3_9 hb); clear BK105; clear BK110; clear HB; have BK105 := n0_; have BK110 := n1_; have HB := n2_; clear n0_ n1_ n2_; (try clear hb); (try clear hb2); (try clear hk); (try clear hi); refine hK.out _ _ ⟨(blk_cell BK105.out 0).trans rfl, (blk_cell BK105.out 1).trans rfl⟩ (fun hHeld => ?_); clear hK K; refine norm_ (a' := ?_) ?_ ?_; rotate_left
            ·show Act.put _ (some 45) _ = _; simp only [Act.put, List.setIfInBounds_toArray, List.set_cons_zero, List.set_cons_succ, i64_w, i32_w]
             rfl
            refine pure_ (i := 4) (N := some 41) (v := ?_) (a' := ?_) abb3_10 rfl rfl (any_of HT_.out (by kernel_rfl)) (fun _ _ _ h => h) (Or.inl ⟨by rfl, ?_⟩) ?_ ?_; rotate_left
            ·intro w'; go_simp; (with_reducible rfl)
            rotate_left
            ·exact cbb3_0
            refine pure_ (i := 5) (N := some 46) (v := ?_) (a' := ?_) abb3_12 rfl rfl (any_of HT_.out (by kernel_rfl)) (fun _ _ _ h => h) (Or.inl ⟨by rfl, ?_⟩) ?_ ?_; rotate_left
            ·intro w'; go_simp; (with_reducible rfl)
            rotate_left
            ·exact cbb3_0
            refine pure_ (i := 6) (N := some 47) (v := ?_) (a' := ?_) abb3_13 rfl rfl (any_of HT_.out (by kernel_rfl)) (fun _ _ _ h => h) (Or.inl ⟨by rfl, ?_⟩) ?_ ?_; rotate_left
            ·intro w'; go_simp; (with_reducible rfl)
            rotate_left
            ·exact cbb3_0
            exact norm_ pbb3_7 (hCont (gb110) _ ⟨hHeld, pbb3_3, pbb3_8, GW110.out, GE110.out, NB105_110.out, NB110_105.out, pbb3_9⟩)
          rintro gb110 w55 ⟨hS_, h0_, h1_, h2_, h3_, h4_, h5_, h6_⟩; have n0_ : Aside0 (w55.heap[gb105]? = some (.cells #[.int .u64 t103, .int .u64 t104] 63 (0, 0))) := ⟨h0_⟩; have n1_ : Aside0 (w55.heap[gb110]? = some (.cells #[.int .u64 0, .int .u64 0] 63 (0, 0))) := ⟨h1_⟩; have n2_ : Aside0 (w.heap.size ≤ gb110) := ⟨h2_⟩; have n3_ : Aside0 (w.heap.size ≤ gb110) := ⟨h3_⟩; have n4_ : Aside0 (gb105 ≠ gb110) := ⟨h4_⟩; have n5_ : Aside0 (gb110 ≠ gb105) := ⟨h5_⟩; have n6_ : Aside0 (Below w.heap.size w w55) := ⟨h6_⟩; clear BK105; clear HB; clear h0_ h1_ h2_ h3_ h4_ h5_ h6_; have BK105 := n0_; have BK110 := n1_; have GW110 := n2_; have GE110 := n3_; have NB105_110 := n4_; have NB110_105 := n5_; have HB := n6_; clear n0_ n1_ n2_ n3_ n4_ n5_ n6_; have hHeld : w55.cell? ⟨gb105, 0, none⟩ = some (.int .u64 t103) ∧ w55.cell? ⟨gb105, 1, none⟩ = some (.int .u64 t104) := hS_; refine norm_ (a' := ?_) ?_ ?_; rotate_left
          ·simp only [putAll, Act.put, List.setIfInBounds_toArray, List.set_cons_zero, List.set_cons_succ]
           rfl
          refine one_ (i := 8) (N := none) abb3_14 rfl rfl (one_of HT_.out (by kernel_rfl)) (by decide) (fun K hK => ?_); have hs56 : w55.cell? ⟨gb110, 0, none⟩ = some (.int .u64 0) := (blk_cell BK110.out 0).trans rfl; have hfs56 := blk_frozen BK110.out 0; have hns56_0 := NB105_110.out; have hms56_0 := NB110_105.out; have hs57 : w55.cell? ⟨gb110, 1, none⟩ = some (.int .u64 0) := (blk_cell BK110.out 1).trans rfl; have hfs57 := blk_frozen BK110.out 1; have hns57_0 := NB105_110.out; have hms57_0 := NB110_105.out; refine skip_ (w1 := ?_) (by rfl) rfl ?_ ?_; rotate_left
          ·go_simp
           rfl
          refine hK.out _ _ ⟨((cell_far (p := ⟨gb110, _, none⟩) NB105_110.out _).trans (((cell_far (p := ⟨gb110, _, none⟩) NB105_110.out _).trans (hHeld.1)))), ((cell_far (p := ⟨gb110, _, none⟩) NB105_110.out _).trans (((cell_far (p := ⟨gb110, _, none⟩) NB105_110.out _).trans (hHeld.2))))⟩ (fun hHeld => ?_); clear hK K; refine pure_ (i := 9) (N := some 13) (v := ?_) (a' := ?_) abb3_15 rfl rfl (any_of HT_.out (by kernel_rfl)) (fun _ _ _ h => h) (Or.inl ⟨by rfl, ?_⟩) ?_ ?_; rotate_left
          ·intro w'; go_simp; (with_reducible rfl)
          rotate_left
          ·exact cbb3_0
          refine done_ (done_of HT_.out (by kernel_rfl)) ?_; have hnb58 := NB110_105.out; have hnc58 := NB105_110.out; have hcz59_0 : w55.cell? ⟨gb110, 0, none⟩ = some (.int .u64 0) := (blk_cell BK110.out 0).trans rfl; have hcz59_1 : w55.cell? ⟨gb110, 1, none⟩ = some (.int .u64 0) := (blk_cell BK110.out 1).trans rfl; have hfz59_0 := blk_frozen BK110.out 0; have hfz59_1 := blk_frozen BK110.out 1; (try go_wp2)
          go_ret2
          exact ⟨pbb2_6, pbb3_9⟩
end Go.Proofs.Ytadognlkefhoiaa.M
end
section
namespace Go.Proofs.Ytadognlkefhoiaa.M
open Go.RowKit Go.Proofs.YtadognlkefhoiaaW.PrintWords Go.Proofs.YtadognlkefhoiaaW.PrintLast Go.Proofs.YtadognlkefhoiaaW.PrintMore
attribute [local go_sem] max2_int min2_int max_two min_two max_three min_three max_four min_four
set_option linter.unusedVariables false
set_option linter.unusedSimpArgs false
def muldiv_Mod.f (a0 : Int) (a1 : Int) (a2 : Int) : Option (Int × Int) := if a2 = 0 then (some (0, 2)) else ((muldiv_magnitude.f a0).bind fun t101 => ((muldiv_magnitude.f a1).bind fun t102 => ((muldiv_multiply.f t101 t102).bind fun bt103 => ((muldiv_magnitude.f a2).bind fun t105 => ((muldiv_divide.f bt103.1 bt103.2 t105).bind fun bt106 => (if bt106.2.2 = 0 then (some (wrap64 (bt106.2.2), 0)) else (if ((decide (a0 < 0)) != (decide (a1 < 0))) = true then ((muldiv_magnitude.f a2).bind fun t110 => (some (wrap64 (IntKind.u64.wrap (t110 - bt106.2.2)), 0))) else (some (wrap64 (bt106.2.2), 0)))))))))
set_option maxHeartbeats 8000000 in
set_option maxRecDepth 100000 in
theorem muldiv_Mod.calls (a0 : Int) (a1 : Int) (a2 : Int) (r1 : Int) (r2 : Int) (w : World) (h : muldiv_Mod.f a0 a1 a2 = some (r1, r2)) :
    Calls Try.prog 56 #[.int .i64 a0, .int .i64 a1, .int .i64 a2] w fun e w' => e = .returned (.tuple #[.int .i64 r1, .int .i64 r2]) ∧ Below w.heap.size w w' := by
 have hu63 := Try.underlying63; have HB := Aside0.mk (Below.refl w.heap.size w); have H : (if a2 = 0 then (some (0, 2)) else ((muldiv_magnitude.f a0).bind fun t101 => ((muldiv_magnitude.f a1).bind fun t102 => ((muldiv_multiply.f t101 t102).bind fun bt103 => ((muldiv_magnitude.f a2).bind fun t105 => ((muldiv_divide.f bt103.1 bt103.2 t105).bind fun bt106 => (if bt106.2.2 = 0 then (some (wrap64 (bt106.2.2), 0)) else (if ((decide (a0 < 0)) != (decide (a1 < 0))) = true then ((muldiv_magnitude.f a2).bind fun t110 => (some (wrap64 (IntKind.u64.wrap (t110 - bt106.2.2)), 0))) else (some (wrap64 (bt106.2.2), 0)))))))))) = some (r1, r2) := h; clear h
 by_cases c4 : a2 = 0
 ·rw [if_pos c4] at H; have c4b0 : (a2 == 0) = true := beq_iff_eq.mpr c4; have c4b1 : (a2 != 0) = false := bne_eq_false_iff_eq.mpr c4; clear c4; simp only [Option.some.injEq, Prod.mk.injEq] at H; obtain ⟨rfl, rfl⟩ := H; go_enter Try.func56, Try.ntmps56
  go_wp2
  go_ret2
  exact ⟨pbb2_6, pbb2_2⟩
 ·rw [if_neg c4] at H; have c4b0 : (a2 == 0) = false := beq_eq_false_iff_ne.mpr c4; have c4b1 : (a2 != 0) = true := bne_iff_ne.mpr c4; replace H := Option.bind_eq_some_iff.mp H; obtain ⟨t101, A50, H⟩ := H; replace H : ((muldiv_magnitude.f a1).bind fun t102 => ((muldiv_multiply.f t101 t102).bind fun bt103 => ((muldiv_magnitude.f a2).bind fun t105 => ((muldiv_divide.f bt103.1 bt103.2 t105).bind fun bt106 => (if bt106.2.2 = 0 then (some (wrap64 (bt106.2.2), 0)) else (if ((decide (a0 < 0)) != (decide (a1 < 0))) = true then ((muldiv_magnitude.f a2).bind fun t110 => (some (wrap64 (IntKind.u64.wrap (t110 - bt106.2.2)), 0))) else (some (wrap64 (bt106.2.2), 0)))))))) = some (r1, r2) := H; have A5 := Aside0.mk A50; clear A50; replace H := Option.bind_eq_some_iff.mp H; obtain ⟨t102, A60, H⟩ := H; replace H : ((muldiv_multiply.f t101 t102).bind fun bt103 => ((muldiv_magnitude.f a2).bind fun t105 => ((muldiv_divide.f bt103.1 bt103.2 t105).bind fun bt106 => (if bt106.2.2 = 0 then (some (wrap64 (bt106.2.2), 0)) else (if ((decide (a0 < 0)) != (decide (a1 < 0))) = true then ((muldiv_magnitude.f a2).bind fun t110 => (some (wrap64 (IntKind.u64.wrap (t110 - bt106.2.2)), 0))) else (some (wrap64 (bt106.2.2), 0))))))) = some (r1, r2) := H; have A6 := Aside0.mk A60; clear A60; replace H := Option.bind_eq_some_iff.mp H; obtain ⟨⟨t103, t104⟩, A70, H⟩ := H; replace H : ((muldiv_magnitude.f a2).bind fun t105 => ((muldiv_divide.f t103 t104 t105).bind fun bt106 => (if bt106.2.2 = 0 then (some (wrap64 (bt106.2.2), 0)) else (if ((decide (a0 < 0)) != (decide (a1 < 0))) = true then ((muldiv_magnitude.f a2).bind fun t110 => (some (wrap64 (IntKind.u64.wrap (t110 - bt106.2.2)), 0))) else (some (wrap64 (bt106.2.2), 0)))))) = some (r1, r2) := H; have A7 := Aside0.mk A70; clear A70; replace H := Option.bind_eq_some_iff.mp H; obtain ⟨t105, A80, H⟩ := H; replace H : ((muldiv_divide.f t103 t104 t105).bind fun bt106 => (if bt106.2.2 = 0 then (some (wrap64 (bt106.2.2), 0)) else (if ((decide (a0 < 0)) != (decide (a1 < 0))) = true then ((muldiv_magnitude.f a2).bind fun t110 => (some (wrap64 (IntKind.u64.wrap (t110 - bt106.2.2)), 0))) else (some (wrap64 (bt106.2.2), 0))))) = some (r1, r2) := H; have A8 := Aside0.mk A80; clear A80; replace H := Option.bind_eq_some_iff.mp H; obtain ⟨⟨t106, t107, t108⟩, A90, H⟩ := H; replace H : (if t108 = 0 then (some (wrap64 (t108), 0)) else (if ((decide (a0 < 0)) != (decide (a1 < 0))) = true then ((muldiv_magnitude.f a2).bind fun t110 => (some (wrap64 (IntKind.u64.wrap (t110 - t108)), 0))) else (some (wrap64 (t108), 0)))) = some (r1, r2) := H; have A9 := Aside0.mk A90; clear A90
  by_cases c10 : t108 = 0
  ·rw [if_pos c10] at H; have c10b0 : (t108 == 0) = true := beq_iff_eq.mpr c10; have c10b1 : (t108 != 0) = false := bne_eq_false_iff_eq.mpr c10; clear c10; simp only [Option.some.injEq, Prod.mk.injEq] at H; obtain ⟨rfl, rfl⟩ := H; go_enter Try.func56, Try.ntmps56
   go_wp2_with (first | ((with_reducible refine gate_callee (f := 44) rfl ?_); refine goesL_ (some 14) rfl rfl Try.func44 (by kernel_rfl) rfl #[.int .i64 a0] rfl pbb3_0 ?_; (with_reducible refine (muldiv_magnitude.calls a0 t101 _ A5.out).mono ?_); rintro e w' ⟨rfl, ⟨nd, rfl⟩⟩; refine ⟨_, rfl, ?_⟩) | ((with_reducible refine gate_callee (f := 44) rfl ?_); refine goesL_ (some 16) rfl rfl Try.func44 (by kernel_rfl) rfl #[.int .i64 a1] rfl pbb3_0 ?_; (with_reducible refine (muldiv_magnitude.calls a1 t102 _ A6.out).mono ?_); rintro e w' ⟨rfl, ⟨nd, rfl⟩⟩; refine ⟨_, rfl, ?_⟩) | ((with_reducible refine gate_callee (f := 43) rfl ?_); refine goesL_ (some 17) rfl rfl Try.func43 (by kernel_rfl) rfl #[.int .u64 t101, .int .u64 t102] rfl pbb3_0 ?_; (with_reducible refine (muldiv_multiply.calls t101 t102 t103 t104 _ A7.out).mono ?_); rintro e w11 ⟨rfl, hb⟩; refine ⟨_, rfl, ?_⟩; have n0_ := Aside0.mk (below_step pbb2_2 hb); clear HB; have HB := n0_; clear n0_; (try clear hb); (try clear hb2); (try clear hk); (try clear hi)) | ((with_reducible refine gate_callee (f := 44) rfl ?_); refine goesL_ (some 19) rfl rfl Try.func44 (by kernel_rfl) rfl #[.int .i64 a2] rfl pbb3_0 ?_; (with_reducible refine (muldiv_magnitude.calls a2 t105 _ A8.out).mono ?_); rintro e w' ⟨rfl, ⟨nd, rfl⟩⟩; refine ⟨_, rfl, ?_⟩; (try (rw [drewN_self w11]; generalize hq_ : World.drewN w11 _ = w11; have n0_ : Aside0 (Below w.heap.size w w11) := ⟨pbb3_1⟩; clear HB hq_; have HB := n0_; clear n0_))) | ((with_reducible refine gate_callee (f := 45) rfl ?_); refine goesL_ (some 20) rfl rfl Try.func45 (by kernel_rfl) rfl #[.agg #[.int .u64 t103, .int .u64 t104], .int .u64 t105] rfl pbb3_0 ?_; (with_reducible refine (muldiv_divide.calls t103 t104 t105 t106 t107 t108 _ A9.out).mono ?_); rintro e w12 ⟨rfl, hb⟩; refine ⟨_, rfl, ?_⟩; have n0_ := Aside0.mk (below_step pbb2_2 hb); clear HB; have HB := n0_; clear n0_; (try clear hb); (try clear hb2); (try clear hk); (try clear hi)) | ((with_reducible refine gate_dst (N := 8) rfl ?_); refine box_event ?hg (N := 8) ?hd (cs := #[.int .u64 0, .int .u64 0]) (t := 63) ?hr ?_; (case hd => rfl); (case hg => rfl); (case hr => first | (go_simp; done) | (go_simp; rfl)); intro gb109 hg w13 hbox hb; have n0_ := Aside0.mk (below_step pbb2_2 hb); have n1_ := Aside0.mk (hbox); have n2_ := Aside0.mk ((pbb2_3 : w.heap.size ≤ gb109)); have n3_ := Aside0.mk ((pbb2_3 : w.heap.size ≤ gb109)); clear HB; have HB := n0_; have BK109 := n1_; have GW109 := n2_; have GE109 := n3_; clear n0_ n1_ n2_ n3_; clear hb hbox hg; have hcz14_0 : w13.cell? ⟨gb109, 0, none⟩ = some (.int .u64 0) := (blk_cell BK109.out 0).trans rfl; have hcz14_1 : w13.cell? ⟨gb109, 1, none⟩ = some (.int .u64 0) := (blk_cell BK109.out 1).trans rfl; have hfz14_0 := blk_frozen BK109.out 0; have hfz14_1 := blk_frozen BK109.out 1))
   go_ret2
   exact ⟨pbb2_6, pbb3_10⟩
  ·rw [if_neg c10] at H; have c10b0 : (t108 == 0) = false := beq_eq_false_iff_ne.mpr c10; have c10b1 : (t108 != 0) = true := bne_iff_ne.mpr c10
   by_cases c15 : ((decide (a0 < 0)) != (decide (a1 < 0))) = true
   ·rw [if_pos c15] at H; have c15b0 : ((decide (a0 < 0)) != (decide (a1 < 0))) = true := c15; (try (have c15b1 : decide ((decide (a0 < 0)) = (decide (a1 < 0))) = false := by simpa using c15)); (try (have c15b2 : ((decide (a0 < 0)) == (decide (a1 < 0))) = false := by simpa using c15)); (try (have c15b3 : ¬ ((decide (a0 < 0)) = (decide (a1 < 0))) := by simpa using c15)); clear c15; replace H := Option.bind_eq_some_iff.mp H; obtain ⟨t110, A160, H⟩ := H; replace H : (some (wrap64 (IntKind.u64.wrap (t110 - t108)), 0)) = some (r1, r2) := H; have A16 := Aside0.mk A160; clear A160; simp only [Option.some.injEq, Prod.mk.injEq] at H; obtain ⟨rfl, rfl⟩ := H; go_enter Try.func56, Try.ntmps56
    go_wp2_with (first | ((with_reducible refine gate_callee (f := 44) rfl ?_); refine goesL_ (some 14) rfl rfl Try.func44 (by kernel_rfl) rfl #[.int .i64 a0] rfl pbb3_0 ?_; (with_reducible refine (muldiv_magnitude.calls a0 t101 _ A5.out).mono ?_); rintro e w' ⟨rfl, ⟨nd, rfl⟩⟩; refine ⟨_, rfl, ?_⟩) | ((with_reducible refine gate_callee (f := 44) rfl ?_); refine goesL_ (some 16) rfl rfl Try.func44 (by kernel_rfl) rfl #[.int .i64 a1] rfl pbb3_0 ?_; (with_reducible refine (muldiv_magnitude.calls a1 t102 _ A6.out).mono ?_); rintro e w' ⟨rfl, ⟨nd, rfl⟩⟩; refine ⟨_, rfl, ?_⟩) | ((with_reducible refine gate_callee (f := 43) rfl ?_); refine goesL_ (some 17) rfl rfl Try.func43 (by kernel_rfl) rfl #[.int .u64 t101, .int .u64 t102] rfl pbb3_0 ?_; (with_reducible refine (muldiv_multiply.calls t101 t102 t103 t104 _ A7.out).mono ?_); rintro e w17 ⟨rfl, hb⟩; refine ⟨_, rfl, ?_⟩; have n0_ := Aside0.mk (below_step pbb2_2 hb); clear HB; have HB := n0_; clear n0_; (try clear hb); (try clear hb2); (try clear hk); (try clear hi)) | ((with_reducible refine gate_callee (f := 44) rfl ?_); refine goesL_ (some 19) rfl rfl Try.func44 (by kernel_rfl) rfl #[.int .i64 a2] rfl pbb3_0 ?_; (with_reducible refine (muldiv_magnitude.calls a2 t105 _ A8.out).mono ?_); rintro e w' ⟨rfl, ⟨nd, rfl⟩⟩; refine ⟨_, rfl, ?_⟩; (try (rw [drewN_self w17]; generalize hq_ : World.drewN w17 _ = w17; have n0_ : Aside0 (Below w.heap.size w w17) := ⟨pbb3_1⟩; clear HB hq_; have HB := n0_; clear n0_))) | ((with_reducible refine gate_callee (f := 45) rfl ?_); refine goesL_ (some 20) rfl rfl Try.func45 (by kernel_rfl) rfl #[.agg #[.int .u64 t103, .int .u64 t104], .int .u64 t105] rfl pbb3_0 ?_; (with_reducible refine (muldiv_divide.calls t103 t104 t105 t106 t107 t108 _ A9.out).mono ?_); rintro e w18 ⟨rfl, hb⟩; refine ⟨_, rfl, ?_⟩; have n0_ := Aside0.mk (below_step pbb2_2 hb); clear HB; have HB := n0_; clear n0_; (try clear hb); (try clear hb2); (try clear hk); (try clear hi)) | ((with_reducible refine gate_dst (N := 8) rfl ?_); refine box_event ?hg (N := 8) ?hd (cs := #[.int .u64 0, .int .u64 0]) (t := 63) ?hr ?_; (case hd => rfl); (case hg => rfl); (case hr => first | (go_simp; done) | (go_simp; rfl)); intro gb109 hg w19 hbox hb; have n0_ := Aside0.mk (below_step pbb2_2 hb); have n1_ := Aside0.mk (hbox); have n2_ := Aside0.mk ((pbb2_3 : w.heap.size ≤ gb109)); have n3_ := Aside0.mk ((pbb2_3 : w.heap.size ≤ gb109)); clear HB; have HB := n0_; have BK109 := n1_; have GW109 := n2_; have GE109 := n3_; clear n0_ n1_ n2_ n3_; clear hb hbox hg; have hcz20_0 : w19.cell? ⟨gb109, 0, none⟩ = some (.int .u64 0) := (blk_cell BK109.out 0).trans rfl; have hcz20_1 : w19.cell? ⟨gb109, 1, none⟩ = some (.int .u64 0) := (blk_cell BK109.out 1).trans rfl; have hfz20_0 := blk_frozen BK109.out 0; have hfz20_1 := blk_frozen BK109.out 1) | ((with_reducible refine gate_callee (f := 44) rfl ?_); refine goesL_ (some 33) rfl rfl Try.func44 (by kernel_rfl) rfl #[.int .i64 a2] rfl pbb3_0 ?_; (with_reducible refine (muldiv_magnitude.calls a2 t110 _ A16.out).mono ?_); rintro e w' ⟨rfl, ⟨nd, rfl⟩⟩; refine ⟨_, rfl, ?_⟩))
    go_ret2
    exact ⟨pbb2_6, pbb3_10⟩
   ·rw [if_neg c15] at H; have c15b0 : ((decide (a0 < 0)) != (decide (a1 < 0))) = false := by simpa using c15
    (try (have c15b1 : decide ((decide (a0 < 0)) = (decide (a1 < 0))) = true := by simpa using c15)); (try (have c15b2 : ((decide (a0 < 0)) == (decide (a1 < 0))) = true := by simpa using c15)); clear c15; simp only [Option.some.injEq, Prod.mk.injEq] at H; obtain ⟨rfl, rfl⟩ := H; go_enter Try.func56, Try.ntmps56
    go_wp2_with (first | ((with_reducible refine gate_callee (f := 44) rfl ?_); refine goesL_ (some 14) rfl rfl Try.func44 (by kernel_rfl) rfl #[.int .i64 a0] rfl pbb3_0 ?_; (with_reducible refine (muldiv_magnitude.calls a0 t101 _ A5.out).mono ?_); rintro e w' ⟨rfl, ⟨nd, rfl⟩⟩; refine ⟨_, rfl, ?_⟩) | ((with_reducible refine gate_callee (f := 44) rfl ?_); refine goesL_ (some 16) rfl rfl Try.func44 (by kernel_rfl) rfl #[.int .i64 a1] rfl pbb3_0 ?_; (with_reducible refine (muldiv_magnitude.calls a1 t102 _ A6.out).mono ?_); rintro e w' ⟨rfl, ⟨nd, rfl⟩⟩; refine ⟨_, rfl, ?_⟩) | ((with_reducible refine gate_callee (f := 43) rfl ?_); refine goesL_ (some 17) rfl rfl Try.func43 (by kernel_rfl) rfl #[.int .u64 t101, .int .u64 t102] rfl pbb3_0 ?_; (with_reducible refine (muldiv_multiply.calls t101 t102 t103 t104 _ A7.out).mono ?_); rintro e w21 ⟨rfl, hb⟩; refine ⟨_, rfl, ?_⟩; have n0_ := Aside0.mk (below_step pbb2_2 hb); clear HB; have HB := n0_; clear n0_; (try clear hb); (try clear hb2); (try clear hk); (try clear hi)) | ((with_reducible refine gate_callee (f := 44) rfl ?_); refine goesL_ (some 19) rfl rfl Try.func44 (by kernel_rfl) rfl #[.int .i64 a2] rfl pbb3_0 ?_; (with_reducible refine (muldiv_magnitude.calls a2 t105 _ A8.out).mono ?_); rintro e w' ⟨rfl, ⟨nd, rfl⟩⟩; refine ⟨_, rfl, ?_⟩; (try (rw [drewN_self w21]; generalize hq_ : World.drewN w21 _ = w21; have n0_ : Aside0 (Below w.heap.size w w21) := ⟨pbb3_1⟩; clear HB hq_; have HB := n0_; clear n0_))) | ((with_reducible refine gate_callee (f := 45) rfl ?_); refine goesL_ (some 20) rfl rfl Try.func45 (by kernel_rfl) rfl #[.agg #[.int .u64 t103, .int .u64 t104], .int .u64 t105] rfl pbb3_0 ?_; (with_reducible refine (muldiv_divide.calls t103 t104 t105 t106 t107 t108 _ A9.out).mono ?_); rintro e w22 ⟨rfl, hb⟩; refine ⟨_, rfl, ?_⟩; have n0_ := Aside0.mk (below_step pbb2_2 hb); clear HB; have HB := n0_; clear n0_; (try clear hb); (try clear hb2); (try clear hk); (try clear hi)) | ((with_reducible refine gate_dst (N := 8) rfl ?_); refine box_event ?hg (N := 8) ?hd (cs := #[.int .u64 0, .int .u64 0]) (t := 63) ?hr ?_; (case hd => rfl); (case hg => rfl); (case hr => first | (go_simp; done) | (go_simp; rfl)); intro gb109 hg w23 hbox hb; have n0_ := Aside0.mk (below_step pbb2_2 hb); have n1_ := Aside0.mk (hbox); have n2_ := Aside0.mk ((pbb2_3 : w.heap.size ≤ gb109)); have n3_ := Aside0.mk ((pbb2_3 : w.heap.size ≤ gb109)); clear HB; have HB := n0_; have BK109 := n1_; have GW109 := n2_; have GE109 := n3_; clear n0_ n1_ n2_ n3_; clear hb hbox hg; have hcz24_0 : w23.cell? ⟨gb109, 0, none⟩ = some (.int .u64 0) := (blk_cell BK109.out 0).trans rfl; have hcz24_1 : w23.cell? ⟨gb109, 1, none⟩ = some (.int .u64 0) := (blk_cell BK109.out 1).trans rfl; have hfz24_0 := blk_frozen BK109.out 0; have hfz24_1 := blk_frozen BK109.out 1))
    go_ret2
    exact ⟨pbb2_6, pbb3_10⟩
end Go.Proofs.Ytadognlkefhoiaa.M
end
section
namespace Go.Proofs.Ytadognlkefhoiaa.M
open Go.RowKit Go.Proofs.YtadognlkefhoiaaW.PrintWords Dv
set_option linter.unusedVariables false
set_option linter.unusedSimpArgs false
theorem muldiv_magnitude.eq {a : Int} (h : inI a) : muldiv_magnitude.f a = some (ab a) := by
  unfold inI at h
  unfold muldiv_magnitude.f ab
  simp only [wrap_u64]
  split
  · congr 1; omega
  · congr 1; omega
theorem muldiv_multiply.eq {x y : Int} (h0 : 0 ≤ x) (h1 : x < 18446744073709551616) (h2 : 0 ≤ y) (h3 : y < 18446744073709551616) : muldiv_multiply.f x y = some (x * y / 18446744073709551616, x * y % 18446744073709551616) := by
  obtain ⟨e1, e2⟩ := mul_words x y h0 h1 h2 h3; rw [← e1, ← e2]
  rfl
theorem muldiv_divide.eq {P c : Int} (h0 : 0 ≤ P) (h1 : P < 18446744073709551616 * 18446744073709551616) (hc : 0 < c) (hc1 : c < 18446744073709551616) : muldiv_divide.f (P / 18446744073709551616) (P % 18446744073709551616) c = some (qh (P / 18446744073709551616) c, ql (P / 18446744073709551616) (P % 18446744073709551616) c, P % c) := by
  unfold muldiv_divide.f
  rw [if_pos ⟨hc, hc1, by omega, by omega, by omega, by omega⟩, (div_words P c h0 hc).2]
theorem muldiv_signed.eq {neg : Bool} {z : Int} (h0 : 0 ≤ z) (h1 : z < 18446744073709551616) : muldiv_signed.f neg z = some (signv neg z) := by
  unfold muldiv_signed.f signv
  cases neg with
  | true =>
    simp only [if_true]
    split
    · rfl
    · congr 2
      rw [wrap_u64]
      unfold wrap64
      omega
  | false =>
    simp only [Bool.false_eq_true, if_false]
    split
    · rfl
    · congr 2
      unfold wrap64
      omega
theorem muldiv_away.eq {mode : Int} {neg : Bool} {q r c : Int} (hq : 0 ≤ q) (hm : 1 ≤ mode ∧ mode ≤ 5) (h0 : 0 ≤ r) (h1 : r < c) (h2 : c < 18446744073709551616) : muldiv_away.f mode neg ((Int.tmod q 2) == 1) r c = some (awayv mode neg q r c) := by
  have e : IntKind.u64.wrap (c - r) = c - r := u64w (by omega) (by omega); have e2 : Int.tmod q 2 = q % 2 := Int.tmod_eq_emod_of_nonneg hq
  unfold muldiv_away.f awayv
  rw [e, e2]; have hmm : mode = 1 ∨ mode = 2 ∨ mode = 3 ∨ mode = 4 ∨ mode = 5 := by omega
  by_cases hr : r = 0
  · simp [hr]
  · rcases hmm with rfl | rfl | rfl | rfl | rfl <;> simp [hr]
    by_cases h3 : r > c - r
    · have h4 : c - r < r := h3
      simp [h3, h4]
    · have h4 : ¬ c - r < r := h3
      by_cases h5 : r = c - r
      · rw [if_neg h3, if_pos h5]
        simp [h4, ← h5]
        by_cases h6 : q % 2 = 1 <;> simp [h6]
      · simp [h3, h4, h5]
theorem negv_pos {a b c : Int} (h : negv a b c = true) : a * b ≠ 0 := by
  unfold negv at h
  simp at h
  intro k
  rcases Int.mul_eq_zero.1 k with z | z <;> simp [z] at h
theorem signv_big {neg : Bool} {z : Int} (h : 18446744073709551616 ≤ z) : signv neg z = (0, 4) := by
  unfold signv
  cases neg
  · simp; omega
  · simp; omega
theorem negv_eq {a b c : Int} : negv a b c = if (decide (ab a * ab b = 0)) = true then false else (((decide (a < 0)) != (decide (b < 0))) != (decide (c < 0))) := by
  unfold negv
  have e : (ab a * ab b = 0) ↔ (a * b = 0) := by
    rw [Int.mul_eq_zero, Int.mul_eq_zero, ab_zero, ab_zero]
  by_cases h : a * b = 0
  · simp [e, h]
  · simp [e, h]
theorem muldiv_MulDiv.eq {a b c : Int} (mode : Int) (ha : inI a) (hb : inI b) (hc : inI c) : Ev (fun k => muldiv_MulDiv.f k a b c mode) (mdv a b c mode) := by
  unfold mdv
  by_cases hm : mode < 1 ∨ mode > 5
  · rw [if_pos hm]
    have j : Ev (fun k => muldiv_MulDiv.j0 k a b c mode true) (0, 10) := by
      refine Ev.succ ?_; simp only [muldiv_MulDiv.j0, if_true]; exact Ev.const _
    by_cases h1 : mode < 1
    · simp only [muldiv_MulDiv.f, if_pos h1]; exact j
    · have h2 : mode > 5 := by omega
      simp only [muldiv_MulDiv.f, if_neg h1, decide_eq_true h2]; exact j
  rw [if_neg hm]; have h1 : ¬ mode < 1 := by omega
  have h2 : ¬ mode > 5 := by omega
  simp only [muldiv_MulDiv.f, if_neg h1, decide_eq_false h2]; refine Ev.succ ?_; simp only [muldiv_MulDiv.j0, Bool.false_eq_true, if_false]
  by_cases h3 : c = 0
  · simp only [if_pos h3]; exact Ev.const _
  have ba := ab_bound ha; have bb := ab_bound hb; have bc := ab_bound hc; have pc := ab_pos h3; have bp := prod_ab ha hb; simp only [if_neg h3, muldiv_magnitude.eq ha, muldiv_magnitude.eq hb, Option.bind_some, muldiv_multiply.eq ba.1 (show ab a < 18446744073709551616 by omega) bb.1 (show ab b < 18446744073709551616 by omega)]
  -- the second part, for any sign
  have J : ∀ neg, Ev (fun k => muldiv_MulDiv.j1 k c mode neg (ab a * ab b / 18446744073709551616) (ab a * ab b % 18446744073709551616)) (signv neg (ab a * ab b / ab c + if awayv mode neg (ab a * ab b / ab c) (ab a * ab b % ab c) (ab c) = true then 1 else 0)) := by
    intro neg; refine Ev.succ ?_; simp only [muldiv_MulDiv.j1, muldiv_magnitude.eq hc, Option.bind_some, muldiv_divide.eq bp.1 bp.2 pc (show ab c < 18446744073709551616 by omega)]; have dw := (div_words (ab a * ab b) (ab c) bp.1 pc).1; have q0 : 0 ≤ ab a * ab b / ab c := Int.ediv_nonneg bp.1 (by omega); have r0 : 0 ≤ ab a * ab b % ab c := Int.emod_nonneg _ (by omega); have r1 : ab a * ab b % ab c < ab c := Int.emod_lt_of_pos _ pc; have qz := qh_zero (ab a * ab b) (ab c) bp.1 pc; have aw := muldiv_away.eq (mode := mode) (neg := neg) q0 (by omega) r0 r1 (show ab c < 18446744073709551616 by omega)
    by_cases hz : qh (ab a * ab b / 18446744073709551616) (ab c) = 0
    · have hq := qz.1 hz; rw [hz, Int.zero_mul, Int.zero_add] at dw; rw [dw]; simp only [if_pos hz, aw, Option.bind_some]
      by_cases haw : awayv mode neg (ab a * ab b / ab c) (ab a * ab b % ab c) (ab c) = true
      · simp only [if_pos haw]
        by_cases hw : ab a * ab b / ab c + 1 = 18446744073709551616
        · have e : IntKind.u64.wrap (ab a * ab b / ab c + 1) = 0 := by rw [wrap_u64, hw]; rfl
          rw [signv_big (by omega)]; simp only [e, if_true]; exact Ev.const _
        · have e : IntKind.u64.wrap (ab a * ab b / ab c + 1) = ab a * ab b / ab c + 1 := u64w (by omega) (by omega); have e2 : ¬ ab a * ab b / ab c + 1 = 0 := by omega
          simp only [e, if_neg e2, muldiv_signed.eq (neg := neg) (z := ab a * ab b / ab c + 1) (by omega) (by omega), Option.bind_some]; exact Ev.const _
      · simp only [if_neg haw, Int.add_zero, muldiv_signed.eq (neg := neg) (z := ab a * ab b / ab c) q0 hq, Option.bind_some]; exact Ev.const _
    · have hq : ¬ ab a * ab b / ab c < 18446744073709551616 := fun k => hz (qz.2 k); rw [signv_big (by split <;> omega)]; simp only [if_neg hz]; exact Ev.const _
  unfold sizev
  rw [negv_eq]
  have hne : (!(ab a * ab b / 18446744073709551616 == 0) || (!(ab a * ab b % 18446744073709551616 == 0))) = !(decide (ab a * ab b = 0)) := by
    by_cases hp : ab a * ab b = 0
    · simp [hp]
    · by_cases hx : ab a * ab b / 18446744073709551616 = 0
      · have hy : ¬ ab a * ab b % 18446744073709551616 = 0 := by omega
        simp [hp, hx, hy]
      · simp [hp, hx]
  simp only [hne]
  by_cases hp : ab a * ab b = 0
  · simp only [hp, decide_true, Bool.not_true, Bool.false_eq_true, if_false, if_true]; have := J false
    simpa only [hp] using this
  · simp only [hp, decide_false, Bool.not_false, Bool.false_eq_true, if_false, if_true]; exact J _
theorem muldiv_Mod.eq {a b c : Int} (ha : inI a) (hb : inI b) (hc : inI c) : muldiv_Mod.f a b c = some (modv a b c) := by
  unfold modv muldiv_Mod.f
  by_cases h3 : c = 0
  · simp only [if_pos h3]
  have ba := ab_bound ha; have bb := ab_bound hb; have bc := ab_bound hc; have pc := ab_pos h3; have bp := prod_ab ha hb; simp only [if_neg h3, muldiv_magnitude.eq ha, muldiv_magnitude.eq hb, muldiv_magnitude.eq hc, Option.bind_some, muldiv_multiply.eq ba.1 (show ab a < 18446744073709551616 by omega) bb.1 (show ab b < 18446744073709551616 by omega), muldiv_divide.eq bp.1 bp.2 pc (show ab c < 18446744073709551616 by omega)]; have r0 : 0 ≤ ab a * ab b % ab c := Int.emod_nonneg _ (by omega); have r1 : ab a * ab b % ab c < ab c := Int.emod_lt_of_pos _ pc
  have sg : a * b = if ((decide (a < 0)) != (decide (b < 0))) = true then -(ab a * ab b) else ab a * ab b := by
    unfold ab
    by_cases x : a < 0 <;> by_cases y : b < 0 <;> simp [x, y, Int.neg_mul, Int.mul_neg]
  have e1 : ∀ z : Int, 0 ≤ z → z < ab c → wrap64 z = z := fun z z0 z1 => w64 (by omega) (by omega); rw [sg]
  by_cases hz : ab a * ab b % ab c = 0
  · simp only [if_pos hz]
    congr 2
    rw [hz]
    split
    · rw [Int.emod_eq_zero_of_dvd (Int.dvd_neg.2 (Int.dvd_of_emod_eq_zero hz))]; exact w64 (by omega) (by omega)
    · rw [hz]; exact w64 (by omega) (by omega)
  · simp only [if_neg hz]
    by_cases n : ((decide (a < 0)) != (decide (b < 0))) = true
    · simp only [if_pos n]; rw [u64w (n := ab c - ab a * ab b % ab c) (by omega) (by omega), e1 (ab c - ab a * ab b % ab c) (by omega) (by omega)]
      congr 2
      have h := Int.emod_add_mul_ediv (ab a * ab b) (ab c)
      have : -(ab a * ab b) = (ab c - ab a * ab b % ab c) + ab c * (-(ab a * ab b / ab c) - 1) := by
        rw [Int.mul_sub, Int.mul_neg]; omega
      rw [this, Int.add_mul_emod_self_left]; exact (Int.emod_eq_of_lt (by omega) (by omega)).symm
    · simp only [if_neg n]; rw [e1 _ r0 r1]
end Go.Proofs.Ytadognlkefhoiaa.M
end
section
namespace Go.Proofs.Ytadognlkefhoiaa.M
open Go.RowKit Go.Proofs.YtadognlkefhoiaaW.PrintWords Go.Proofs.YtadognlkefhoiaaW.PrintLast Go.Proofs.YtadognlkefhoiaaW.PrintMore
attribute [local go_sem] max2_int min2_int max_two min_two max_three min_three max_four min_four
set_option linter.unusedVariables false
set_option linter.unusedSimpArgs false
def frac_Apply.f (k : Nat) (a0_0 : Int) (a0_1 : Int) (a1 : Int) (a2 : Int) : Option (Int × Int) := (frac_Right.f k a0_0 a0_1).bind fun t102 => (if t102 = true then ((muldiv_MulDiv.f k a0_0 a1 a0_1 a2).bind fun bt103 => (some (bt103.1, bt103.2))) else (some (0, 2)))
theorem frac_Apply.mono : ∀ a0 a1 a2 a3 k, LeO (frac_Apply.f k a0 a1 a2 a3) (frac_Apply.f (k + 1) a0 a1 a2 a3) := by
 intro a0 a1 a2 a3 k
 unfold frac_Apply.f
 repeat' first
   | (with_reducible exact frac_Right.mono _ _ _)
   | (with_reducible exact muldiv_MulDiv.mono _ _ _ _ _)
   | (with_reducible exact LeO.refl _)
   | (with_reducible exact LeO.none _)
   | (with_reducible refine LeO.ite ?_ ?_)
   | (with_reducible refine LeO.bind ?_ (fun _ => ?_))
   | exact frac_Right.mono _ _ _
   | exact muldiv_MulDiv.mono _ _ _ _ _
   | exact LeO.none _
   | refine LeO.ite ?_ ?_
   | refine LeO.bind ?_ (fun _ => ?_)
set_option maxHeartbeats 8000000 in
set_option maxRecDepth 100000 in
theorem frac_Apply.calls (k : Nat) (a0_0 : Int) (a0_1 : Int) (a1 : Int) (a2 : Int) (r1 : Int) (r2 : Int) (w : World) (h : frac_Apply.f k a0_0 a0_1 a1 a2 = some (r1, r2)) :
    Calls Try.prog 37 #[.agg #[.int .i64 a0_0, .int .i64 a0_1], .int .i64 a1, .int .i64 a2] w fun e w' => e = .returned (.tuple #[.int .i64 r1, .int .i64 r2]) ∧ Below w.heap.size w w' := by
 have hu23 := Try.underlying23; have hu3 := Try.underlying3; have HB := Aside0.mk (Below.refl w.heap.size w); have H : ((frac_Right.f k a0_0 a0_1).bind fun t102 => (if t102 = true then ((muldiv_MulDiv.f k a0_0 a1 a0_1 a2).bind fun bt103 => (some (bt103.1, bt103.2))) else (some (0, 2)))) = some (r1, r2) := h; clear h; replace H := Option.bind_eq_some_iff.mp H; obtain ⟨t102, A40, H⟩ := H; replace H : (if t102 = true then ((muldiv_MulDiv.f k a0_0 a1 a0_1 a2).bind fun bt103 => (some (bt103.1, bt103.2))) else (some (0, 2))) = some (r1, r2) := H; have A4 := Aside0.mk A40; clear A40
 by_cases c5 : t102 = true
 ·subst c5; have H1 : ((muldiv_MulDiv.f k a0_0 a1 a0_1 a2).bind fun bt103 => (some (bt103.1, bt103.2))) = some (r1, r2) := by rw [if_pos rfl] at H; exact H
  clear H; have H := H1; clear H1; replace H := Option.bind_eq_some_iff.mp H; obtain ⟨⟨t103, t104⟩, A60, H⟩ := H; replace H : (some (t103, t104)) = some (r1, r2) := H; have A6 := Aside0.mk A60; clear A60; simp only [Option.some.injEq, Prod.mk.injEq] at H; obtain ⟨rfl, rfl⟩ := H; go_enter Try.func37, Try.ntmps37
  go_wp2_with (first | ((with_reducible refine gate_dst (N := 3) rfl ?_); refine box_event ?hg (N := 3) ?hd (cs := #[.int .i64 a0_0, .int .i64 a0_1]) (t := 23) ?hr ?_; (case hd => rfl); (case hg => rfl); (case hr => first | (go_simp; done) | (go_simp; rfl)); intro gb101 hg w7 hbox hb; have n0_ := Aside0.mk (below_step pbb2_2 hb); have n1_ := Aside0.mk (hbox); have n2_ := Aside0.mk ((pbb2_3 : w.heap.size ≤ gb101)); have n3_ := Aside0.mk ((pbb2_3 : w.heap.size ≤ gb101)); clear HB; have HB := n0_; have BK101 := n1_; have GW101 := n2_; have GE101 := n3_; clear n0_ n1_ n2_ n3_; clear hb hbox hg; have hcz8_0 : w7.cell? ⟨gb101, 0, none⟩ = some (.int .i64 a0_0) := (blk_cell BK101.out 0).trans rfl; have hcz8_1 : w7.cell? ⟨gb101, 1, none⟩ = some (.int .i64 a0_1) := (blk_cell BK101.out 1).trans rfl; have hfz8_0 := blk_frozen BK101.out 0; have hfz8_1 := blk_frozen BK101.out 1) | ((with_reducible refine gate_callee (f := 17) rfl ?_); refine goesL_ (some 9) rfl rfl Try.func17 (by kernel_rfl) rfl #[.agg #[.int .i64 a0_0, .int .i64 a0_1]] rfl pbb3_0 ?_; (with_reducible refine (frac_Right.calls k a0_0 a0_1 true _ A4.out).mono ?_); rintro e w9 ⟨rfl, hb⟩; refine ⟨_, rfl, ?_⟩; have n0_ := Aside0.mk (blk_below (g := gb101) (o := .cells #[.int .i64 a0_0, .int .i64 a0_1] 23 (0, 0)) pbb2_4 hb); have n1_ := Aside0.mk (below_step pbb2_5 hb); clear BK101; clear HB; have BK101 := n0_; have HB := n1_; clear n0_ n1_; (try clear hb); (try clear hb2); (try clear hk); (try clear hi); have hcz10_0 : w9.cell? ⟨gb101, 0, none⟩ = some (.int .i64 a0_0) := (blk_cell BK101.out 0).trans rfl; have hcz10_1 : w9.cell? ⟨gb101, 1, none⟩ = some (.int .i64 a0_1) := (blk_cell BK101.out 1).trans rfl; have hfz10_0 := blk_frozen BK101.out 0; have hfz10_1 := blk_frozen BK101.out 1) | ((with_reducible refine gate_callee (f := 34) rfl ?_); refine goesL_ (some 17) rfl rfl Try.func34 (by kernel_rfl) rfl #[.int .i64 a0_0, .int .i64 a1, .int .i64 a0_1, .int .i64 a2] rfl pbb3_0 ?_; (with_reducible refine (muldiv_MulDiv.calls k a0_0 a1 a0_1 a2 t103 t104 _ A6.out).mono ?_); rintro e w11 ⟨rfl, hb⟩; refine ⟨_, rfl, ?_⟩; have n0_ := Aside0.mk (blk_below (g := gb101) (o := .cells #[.int .i64 a0_0, .int .i64 a0_1] 23 (0, 0)) pbb2_4 hb); have n1_ := Aside0.mk (below_step pbb2_5 hb); clear BK101; clear HB; have BK101 := n0_; have HB := n1_; clear n0_ n1_; (try clear hb); (try clear hb2); (try clear hk); (try clear hi)))
  go_ret2
  exact ⟨pbb2_6, pbb2_5⟩
 ·replace c5 := Bool.eq_false_iff.mpr c5; subst c5; have H1 : (some (0, 2)) = some (r1, r2) := by rw [if_neg (show ¬ (false = true) by decide)] at H; exact H
  clear H; have H := H1; clear H1; simp only [Option.some.injEq, Prod.mk.injEq] at H; obtain ⟨rfl, rfl⟩ := H; go_enter Try.func37, Try.ntmps37
  go_wp2_with (first | ((with_reducible refine gate_dst (N := 3) rfl ?_); refine box_event ?hg (N := 3) ?hd (cs := #[.int .i64 a0_0, .int .i64 a0_1]) (t := 23) ?hr ?_; (case hd => rfl); (case hg => rfl); (case hr => first | (go_simp; done) | (go_simp; rfl)); intro gb101 hg w12 hbox hb; have n0_ := Aside0.mk (below_step pbb2_2 hb); have n1_ := Aside0.mk (hbox); have n2_ := Aside0.mk ((pbb2_3 : w.heap.size ≤ gb101)); have n3_ := Aside0.mk ((pbb2_3 : w.heap.size ≤ gb101)); clear HB; have HB := n0_; have BK101 := n1_; have GW101 := n2_; have GE101 := n3_; clear n0_ n1_ n2_ n3_; clear hb hbox hg; have hcz13_0 : w12.cell? ⟨gb101, 0, none⟩ = some (.int .i64 a0_0) := (blk_cell BK101.out 0).trans rfl; have hcz13_1 : w12.cell? ⟨gb101, 1, none⟩ = some (.int .i64 a0_1) := (blk_cell BK101.out 1).trans rfl; have hfz13_0 := blk_frozen BK101.out 0; have hfz13_1 := blk_frozen BK101.out 1) | ((with_reducible refine gate_callee (f := 17) rfl ?_); refine goesL_ (some 9) rfl rfl Try.func17 (by kernel_rfl) rfl #[.agg #[.int .i64 a0_0, .int .i64 a0_1]] rfl pbb3_0 ?_; (with_reducible refine (frac_Right.calls k a0_0 a0_1 false _ A4.out).mono ?_); rintro e w14 ⟨rfl, hb⟩; refine ⟨_, rfl, ?_⟩; have n0_ := Aside0.mk (blk_below (g := gb101) (o := .cells #[.int .i64 a0_0, .int .i64 a0_1] 23 (0, 0)) pbb2_4 hb); have n1_ := Aside0.mk (below_step pbb2_5 hb); clear BK101; clear HB; have BK101 := n0_; have HB := n1_; clear n0_ n1_; (try clear hb); (try clear hb2); (try clear hk); (try clear hi)))
  go_ret2
  exact ⟨pbb2_6, pbb2_5⟩
end Go.Proofs.Ytadognlkefhoiaa.M
end
section
namespace Go.Proofs.Ytadognlkefhoiaa.M
open Go.RowKit Go.Proofs.YtadognlkefhoiaaW.PrintWords Dv
set_option linter.unusedVariables false
set_option linter.unusedSimpArgs false
def applyv (n d a mode : Int) : Int × Int := if rightv n d = true then mdv n a d mode else (0, 2)
theorem frac_Apply.eq {n d a : Int} (mode : Int) (hn : inI n) (hd : inI d) (ha : inI a) : Ev (fun k => frac_Apply.f k n d a mode) (applyv n d a mode) := by
  refine Ev.bind (frac_Right.eq hn hd) ?_
  unfold applyv
  by_cases c : rightv n d = true
  · simp only [if_pos c]; exact Ev.bind (muldiv_MulDiv.eq mode hn ha hd) (Ev.const _)
  · simp only [if_neg c]; exact Ev.const _
end Go.Proofs.Ytadognlkefhoiaa.M
end
