/- What the claims of this seat share, part 6 of 8: what the program's functions compute. -/
import Derived.Test.YtegpappenmhndaaDoorQBB1
import Derived.Test.YtegpappenmhndaaDoorQBB2
import Derived.Test.YtegpappenmhndaaDoorQBB5
import Derived.Test.YtegpappenmhndaaDoorQBB4
namespace Go.Proofs.YtegpappenmhndaaDoor.M
theorem pbb6_0 {p : Prop} (h : p := by first | (rw [add_block]; exact Kd.own_blk (IsS37.own_ne HI4.out HO_0.out (by decide))) | (show (Addr.add _ _).block ≠ _; rw [add_block]; exact Kd.own_blk (IsS37.own_ne HI4.out HO_0.out (by decide))) | exact Kd.own_blk (IsS37.own_ne HI4.out HO_0.out (by decide))) : p := h
theorem pbb6_1 {p : Prop} (h : p := by have := HK1.out; omega) : p := h
theorem pbb6_2 {p : Prop} (h : p := by have := HJ59.out; have := HK2.out; have := HJ76.out; have := HJ78.out; have := HJ83.out; omega) : p := h
theorem pbb6_3 {p : Prop} (h : p := by (try simp only [hl0_2]); (try simp only [hl0_3]); (with_reducible repeat (first | apply Kd.R_alloc | apply Kd.R_drewN | apply Kd.R_drew)); exact HO_0.out) : p := h
theorem pbb6_4 {p : Prop} (h : p := by repeat (first | (with_reducible first | exact HB.out | apply below_alloc | apply pw_below_drewN | apply below_drew1 | refine below_set ?_ (IsS37.ge HI102.out)) | exact HB.out)) : p := h
theorem pbb6_5 {p : Prop} (h : p := by repeat (first | (with_reducible first | exact HI102.out | apply IsS37.alloc | apply IsS37.drewN | apply IsS37.drew) | exact HI102.out)) : p := h
end Go.Proofs.YtegpappenmhndaaDoor.M
section
namespace Go.Proofs.YtegpappenmhndaaDoor.M
open Go.RowKit Go.Proofs.YtegpappenmhndaaDoorW.PrintWords Go.Proofs.YtegpappenmhndaaDoorW.PrintLast Go.Proofs.YtegpappenmhndaaDoorW.PrintMore
attribute [local go_sem] max2_int min2_int max_two min_two max_three min_three max_four min_four
set_option linter.unusedVariables false
set_option linter.unusedSimpArgs false
mutual
def F84.l0 : Nat → List Int → Int → Int → Int → List Int → Option (List Int)
  | 0, _, _, _, _, _ => none
  | k + 1, x0, x1, x10, x11, x5000 => if x10 < x11 then (if 0 ≤ (wrap64 ((IntKind.u64.wrap (wrap64 (x10 + x11))) / 2)) then (if (wrap64 ((IntKind.u64.wrap (wrap64 (x10 + x11))) / 2)) < (x0.length : Int) then (if 0 ≤ x1 then (if x1 < (x0.length : Int) then ((F81.f (rd x0 (wrap64 ((IntKind.u64.wrap (wrap64 (x10 + x11))) / 2))) (rd x0 x1) x5000).bind fun t106 => (if t106 < 0 then (F84.l0 k x0 x1 (wrap64 ((wrap64 ((IntKind.u64.wrap (wrap64 (x10 + x11))) / 2)) + 1)) x11 x5000) else (F84.l0 k x0 x1 x10 (wrap64 ((IntKind.u64.wrap (wrap64 (x10 + x11))) / 2)) x5000))) else (none)) else (none)) else (none)) else (none)) else (F84.l1 k x0 x10 x1)
def F84.l1 : Nat → List Int → Int → Int → Option (List Int)
  | 0, _, _, _ => none
  | k + 1, x0, x10, x13 => if x13 < (wrap64 (x10 - 1)) then (if 0 ≤ (wrap64 (x13 + 1)) then (if (wrap64 (x13 + 1)) < (x0.length : Int) then (if 0 ≤ x13 then (if x13 < (x0.length : Int) then (F84.l1 k ((x0.set (x13 : Int).toNat (rd x0 (wrap64 (x13 + 1)))).set ((wrap64 (x13 + 1)) : Int).toNat (rd x0 x13)) x10 (wrap64 (x13 + 1))) else (none)) else (none)) else (none)) else (none)) else (some x0)
def F84.l2 : Nat → List Int → Int → Int → Int → List Int → Option (List Int)
  | 0, _, _, _, _, _ => none
  | k + 1, x0, x2, x14, x15, x5000 => if x14 < x15 then (if 0 ≤ x2 then (if x2 < (x0.length : Int) then (if 0 ≤ (wrap64 ((IntKind.u64.wrap (wrap64 (x14 + x15))) / 2)) then (if (wrap64 ((IntKind.u64.wrap (wrap64 (x14 + x15))) / 2)) < (x0.length : Int) then ((F81.f (rd x0 x2) (rd x0 (wrap64 ((IntKind.u64.wrap (wrap64 (x14 + x15))) / 2))) x5000).bind fun t113 => (if t113 < 0 then (F84.l2 k x0 x2 x14 (wrap64 ((IntKind.u64.wrap (wrap64 (x14 + x15))) / 2)) x5000) else (F84.l2 k x0 x2 (wrap64 ((wrap64 ((IntKind.u64.wrap (wrap64 (x14 + x15))) / 2)) + 1)) x15 x5000))) else (none)) else (none)) else (none)) else (none)) else (F84.l3 k x0 x14 x2)
def F84.l3 : Nat → List Int → Int → Int → Option (List Int)
  | 0, _, _, _ => none
  | k + 1, x0, x14, x17 => if x17 > x14 then (if 0 ≤ (wrap64 (x17 - 1)) then (if (wrap64 (x17 - 1)) < (x0.length : Int) then (if 0 ≤ x17 then (if x17 < (x0.length : Int) then (F84.l3 k ((x0.set (x17 : Int).toNat (rd x0 (wrap64 (x17 - 1)))).set ((wrap64 (x17 - 1)) : Int).toNat (rd x0 x17)) x14 (wrap64 (x17 - 1))) else (none)) else (none)) else (none)) else (none)) else (some x0)
def F84.j4 : Nat → List Int → Int → Int → Int → Int → Int → Int → Int → List Int → Option (List Int)
  | 0, _, _, _, _, _, _, _, _, _ => none
  | k + 1, x0, x1, x2, x3, x18, x19, x20, x21, x5000 => F84.l4 k x0 x1 x2 x3 x18 x19 x20 x21 (wrap64 (x19 - 1)) x5000
def F84.l4 : Nat → List Int → Int → Int → Int → Int → Int → Int → Int → Int → List Int → Option (List Int)
  | 0, _, _, _, _, _, _, _, _, _, _ => none
  | k + 1, x0, x1, x2, x3, x18, x19, x20, x21, x22, x5000 => if x20 < x21 then (if 0 ≤ (wrap64 (x22 - (wrap64 ((IntKind.u64.wrap (wrap64 (x20 + x21))) / 2)))) then (if (wrap64 (x22 - (wrap64 ((IntKind.u64.wrap (wrap64 (x20 + x21))) / 2)))) < (x0.length : Int) then (if 0 ≤ (wrap64 ((IntKind.u64.wrap (wrap64 (x20 + x21))) / 2)) then (if (wrap64 ((IntKind.u64.wrap (wrap64 (x20 + x21))) / 2)) < (x0.length : Int) then ((F81.f (rd x0 (wrap64 (x22 - (wrap64 ((IntKind.u64.wrap (wrap64 (x20 + x21))) / 2))))) (rd x0 (wrap64 ((IntKind.u64.wrap (wrap64 (x20 + x21))) / 2))) x5000).bind fun t120 => (if t120 < 0 then (F84.l4 k x0 x1 x2 x3 x18 x19 x20 (wrap64 ((IntKind.u64.wrap (wrap64 (x20 + x21))) / 2)) x22 x5000) else (F84.l4 k x0 x1 x2 x3 x18 x19 (wrap64 ((wrap64 ((IntKind.u64.wrap (wrap64 (x20 + x21))) / 2)) + 1)) x21 x22 x5000))) else (none)) else (none)) else (none)) else (none)) else (if x20 < x2 then (F84.j6 k x0 x1 x2 x3 x18 x20 (wrap64 (x19 - x20)) (decide (x2 < (wrap64 (x19 - x20)))) x5000) else (F84.j6 k x0 x1 x2 x3 x18 x20 (wrap64 (x19 - x20)) false x5000))
def F84.j6 : Nat → List Int → Int → Int → Int → Int → Int → Int → Bool → List Int → Option (List Int)
  | 0, _, _, _, _, _, _, _, _, _ => none
  | k + 1, x0, x1, x2, x3, x18, x20, x24, x185, x5000 => if x185 = true then ((F85.f k x0 x20 x2 x24 x5000).bind fun t121 => (F84.j7 k t121 x1 x3 x18 x20 x24 x5000)) else (F84.j7 k x0 x1 x3 x18 x20 x24 x5000)
def F84.j7 : Nat → List Int → Int → Int → Int → Int → Int → List Int → Option (List Int)
  | 0, _, _, _, _, _, _, _ => none
  | k + 1, x0, x1, x3, x18, x20, x24, x5000 => if x1 < x20 then (F84.j8 k x0 x1 x3 x18 x20 x24 (decide (x20 < x18)) x5000) else (F84.j8 k x0 x1 x3 x18 x20 x24 false x5000)
def F84.j8 : Nat → List Int → Int → Int → Int → Int → Int → Bool → List Int → Option (List Int)
  | 0, _, _, _, _, _, _, _, _ => none
  | k + 1, x0, x1, x3, x18, x20, x24, x199, x5000 => if x199 = true then ((F84.f k x0 x1 x20 x18 x5000).bind fun t122 => (if x18 < x24 then (if x24 < x3 then ((F84.f k t122 x18 x24 x3 x5000).bind fun t123 => (some t123)) else (some t122)) else (some t122))) else (if x18 < x24 then (if x24 < x3 then ((F84.f k x0 x18 x24 x3 x5000).bind fun t124 => (some t124)) else (some x0)) else (some x0))
def F84.f : Nat → List Int → Int → Int → Int → List Int → Option (List Int)
  | 0, _, _, _, _, _ => none
  | k + 1, l0, a1, a2, a3, s4_0 => if (wrap64 (a2 - a1)) = 1 then (F84.l0 k l0 a1 a2 a3 s4_0) else (if (wrap64 (a3 - a2)) = 1 then (F84.l2 k l0 a2 a1 a2 s4_0) else (if a2 > (wrap64 ((IntKind.u64.wrap (wrap64 (a1 + a3))) / 2)) then (F84.j4 k l0 a1 a2 a3 (wrap64 ((IntKind.u64.wrap (wrap64 (a1 + a3))) / 2)) (wrap64 ((wrap64 ((IntKind.u64.wrap (wrap64 (a1 + a3))) / 2)) + a2)) (wrap64 ((wrap64 ((wrap64 ((IntKind.u64.wrap (wrap64 (a1 + a3))) / 2)) + a2)) - a3)) (wrap64 ((IntKind.u64.wrap (wrap64 (a1 + a3))) / 2)) s4_0) else (F84.j4 k l0 a1 a2 a3 (wrap64 ((IntKind.u64.wrap (wrap64 (a1 + a3))) / 2)) (wrap64 ((wrap64 ((IntKind.u64.wrap (wrap64 (a1 + a3))) / 2)) + a2)) a1 a2 s4_0)))
end
def F84.T5 : Bool × List (List Nat × List Nat) := (true, [([], []), ([], []), ([], []), ([1, 2], [1, 2]), ([3], [3]), ([], []), ([], []), ([5, 6], [5, 6]), ([7], [7]), ([0, 4, 8], [0, 4, 8]), ([9], [9])])
def F84.B5 : List Nat := [0, 0, 0, 6, 14, 0, 0, 96, 224, 511, 1023]
theorem F84.tab5 : rtab .any (opsOf Tryd.f84 5) = F84.T5 := by kernel_rfl
theorem F84.bits5 : waitsOk F84.T5.2 F84.B5 = true := by kernel_rfl
def F84.T11 : Bool × List (List Nat × List Nat) := (true, [([], []), ([], []), ([], []), ([], []), ([3], [3]), ([], []), ([], []), ([6], [6]), ([5, 7], [5, 7]), ([8], [8]), ([], []), ([], []), ([10, 11], [10, 11]), ([12], [12]), ([0, 1, 0, 1, 5, 6, 7, 8, 9, 13], [0, 1]), ([14, 9, 0, 1, 5, 6, 7, 8, 9, 13], [9, 14]), ([2, 4, 0, 1, 2, 3, 4, 5, 6, 7, 8, 9, 10, 11, 12, 13, 14, 15], [2, 4]), ([16, 13, 15, 0, 1, 2, 3, 4, 5, 6, 7, 8, 9, 10, 11, 12, 13, 14, 15], [13, 16])])
def F84.B11 : List Nat := [0, 0, 0, 0, 8, 0, 0, 64, 224, 480, 0, 0, 3072, 7168, 16355, 32739, 65535, 131071]
theorem F84.tab11 : rtab .any (opsOf Tryd.f84 11) = F84.T11 := by kernel_rfl
theorem F84.bits11 : waitsOk F84.T11.2 F84.B11 = true := by kernel_rfl
def F84.T17 : Bool × List (List Nat × List Nat) := (true, [([], []), ([], []), ([], []), ([1, 2], [1, 2]), ([3], [3]), ([], []), ([], []), ([5, 6], [5, 6]), ([7], [7]), ([0, 4, 8], [0, 4, 8]), ([9], [9]), ([10], [10])])
def F84.B17 : List Nat := [0, 0, 0, 6, 14, 0, 0, 96, 224, 511, 1023, 2047]
theorem F84.tab17 : rtab .any (opsOf Tryd.f84 17) = F84.T17 := by kernel_rfl
theorem F84.bits17 : waitsOk F84.T17.2 F84.B17 = true := by kernel_rfl
def F84.T23 : Bool × List (List Nat × List Nat) := (true, [([], []), ([], []), ([], []), ([], []), ([3], [3]), ([], []), ([], []), ([6], [6]), ([5, 7], [5, 7]), ([8], [8]), ([], []), ([], []), ([10, 11], [10, 11]), ([12], [12]), ([0, 1, 0, 1, 5, 6, 7, 8, 9, 13], [0, 1]), ([14, 9, 0, 1, 5, 6, 7, 8, 9, 13], [9, 14]), ([2, 4, 0, 1, 2, 3, 4, 5, 6, 7, 8, 9, 10, 11, 12, 13, 14, 15], [2, 4]), ([16, 13, 15, 0, 1, 2, 3, 4, 5, 6, 7, 8, 9, 10, 11, 12, 13, 14, 15], [13, 16])])
def F84.B23 : List Nat := [0, 0, 0, 0, 8, 0, 0, 64, 224, 480, 0, 0, 3072, 7168, 16355, 32739, 65535, 131071]
theorem F84.tab23 : rtab .any (opsOf Tryd.f84 23) = F84.T23 := by kernel_rfl
theorem F84.bits23 : waitsOk F84.T23.2 F84.B23 = true := by kernel_rfl
def F84.T35 : Bool × List (List Nat × List Nat) := (true, [([], []), ([], []), ([], []), ([], []), ([2, 3], [2, 3]), ([1, 4], [1, 4]), ([5], [5]), ([], []), ([], []), ([7, 8], [7, 8]), ([9], [9]), ([0, 6, 10], [0, 6, 10]), ([11], [11]), ([12], [12])])
def F84.B35 : List Nat := [0, 0, 0, 0, 12, 30, 62, 0, 0, 384, 896, 2047, 4095, 8191]
theorem F84.tab35 : rtab .any (opsOf Tryd.f84 35) = F84.T35 := by kernel_rfl
theorem F84.bits35 : waitsOk F84.T35.2 F84.B35 = true := by kernel_rfl
set_option maxHeartbeats 8000000 in
set_option maxRecDepth 100000 in
theorem F84.calls (k : Nat) : ∀ (P0_ : Nat → Prop) (u9000_ : Value) (l0 : List Int) (a1 : Int) (a2 : Int) (a3 : Int) (g : Nat) (s4_0 : List Int) (r : List Int) (w0 w : World) (hI : IsS37 w0 w g s4_0) (hB : Below w0.heap.size w0 w) (ho0 : Kd.R (Kd.int .i64) 3 w w0.heap.size P0_ u9000_ l0) (h : F84.f k l0 a1 a2 a3 s4_0 = some r),
    Calls Tryd.prog 84 #[u9000_, .int .i64 a1, .int .i64 a2, .int .i64 a3, .func (.func 81) #[] #[.pointer (some ⟨g, 0, none⟩)]] w fun e w' => e = .returned (.tuple #[]) ∧ IsS37 w0 w' g s4_0 ∧ Kd.R (Kd.int .i64) 3 w' w0.heap.size (fun k_ => (P0_ k_ ∨ w.heap.size ≤ k_)) u9000_ r ∧ Below w0.heap.size w0 w' ∧ Kept w w' (fun k_ => (P0_ k_) ∨ k_ = g) := by
 induction k using Nat.strongRecOn with
 | _ k ih =>
 intro P0_ u9000_ l0 a1 a2 a3 g s4_0 r w0 w hI hB ho0 h
 cases k with
 | zero => exact absurd h (by simp [F84.f])
 | succ k =>
 simp only [F84.f] at h; have hu3 := Tryd.underlying3; have HO0 := Aside0.mk (show Kd.R (Kd.int .i64) 3 w w0.heap.size (fun k_ => (P0_ k_ ∨ w.heap.size ≤ k_)) u9000_ l0 from Kd.R_mono ho0 (fun k_ hk => (.inl hk))); have HI4 := Aside0.mk hI; have HL := Aside0.mk hB.size; clear hI; have HK := Aside0.mk (Kept.refl w (fun k_ => (P0_ k_) ∨ k_ = g)); have HW0 := Aside0.mk hB.size; have HB := Aside0.mk hB; clear hB; have H : (if (wrap64 (a2 - a1)) = 1 then (F84.l0 k l0 a1 a2 a3 s4_0) else (if (wrap64 (a3 - a2)) = 1 then (F84.l2 k l0 a2 a1 a2 s4_0) else (if a2 > (wrap64 ((IntKind.u64.wrap (wrap64 (a1 + a3))) / 2)) then (F84.j4 k l0 a1 a2 a3 (wrap64 ((IntKind.u64.wrap (wrap64 (a1 + a3))) / 2)) (wrap64 ((wrap64 ((IntKind.u64.wrap (wrap64 (a1 + a3))) / 2)) + a2)) (wrap64 ((wrap64 ((wrap64 ((IntKind.u64.wrap (wrap64 (a1 + a3))) / 2)) + a2)) - a3)) (wrap64 ((IntKind.u64.wrap (wrap64 (a1 + a3))) / 2)) s4_0) else (F84.j4 k l0 a1 a2 a3 (wrap64 ((IntKind.u64.wrap (wrap64 (a1 + a3))) / 2)) (wrap64 ((wrap64 ((IntKind.u64.wrap (wrap64 (a1 + a3))) / 2)) + a2)) a1 a2 s4_0)))) = some r := h; clear h
 by_cases c6 : (wrap64 (a2 - a1)) = 1
 ·rw [if_pos c6] at H; have c6b0 := bT_ c6; have c6b1 := bF_ c6; clear c6; have H' := Aside0.mk H; clear H; go_enter Tryd.func84, Tryd.ntmps84
  go_wp2
  go_loopg [10, 11] k (fun kq v10 v11 w' => ∃ (x10_1 : Int) (x11_1 : Int), v10 = .int .i64 x10_1 ∧ v11 = .int .i64 x11_1 ∧ Aside0 (F84.l0 kq l0 a1 x10_1 x11_1 s4_0 = some r) ∧ Aside0 (kq ≤ k) ∧ Aside0 (Kd.R (Kd.int .i64) 3 w' w0.heap.size (fun k_ => (P0_ k_ ∨ w.heap.size ≤ k_)) u9000_ l0) ∧ Aside0 (IsS37 w0 w' g s4_0) ∧ Aside0 (Kept w w' (fun k_ => (P0_ k_) ∨ k_ = g)) ∧ Aside0 (Below w0.heap.size w0 w'))
  case atStart => exact ⟨(a2), (a3), pbb2_0, pbb2_0, H', ⟨Nat.le_refl _⟩, ⟨pbb5_3⟩, ⟨pbb5_9⟩, ⟨pbb5_5⟩, ⟨pbb5_10⟩⟩
  case round =>
   as_aux_lemma =>
    clear H'; obtain ⟨x10_1, x11_1, rfl, rfl, HA, HK1, HO_0, HI4, HK, HB⟩ := hrel
    cases gk with
    | zero => exact absurd HA.out (by simp [F84.l0])
    | succ k1 =>
     have H := HA.out; clear HA; simp only [F84.l0] at H
     by_cases c7 : x10_1 < x11_1
     ·rw [if_pos c7] at H; have c7b0 := decide_eq_true c7; clear c7; obtain ⟨ji8, hji8⟩ : ∃ j_ : Int, (wrap64 ((IntKind.u64.wrap (wrap64 (x10_1 + x11_1))) / 2)) = j_ := ⟨_, rfl⟩; (first | rw [hji8] at H | simp only [hji8] at H); have hji8w : (IntKind.i64.wrap ((IntKind.u64.wrap (wrap64 (x10_1 + x11_1))) / 2)) = ji8 := (i64_w _).trans hji8
      by_cases c9 : 0 ≤ (ji8)
      ·rw [if_pos c9] at H; have c9b0 := decide_eq_true c9; clear c9
       by_cases c10 : (ji8) < (l0.length : Int)
       ·rw [if_pos c10] at H; have c10b0 := decide_eq_true c10; clear c10
        by_cases c11 : 0 ≤ a1
        ·rw [if_pos c11] at H; have c11b0 := decide_eq_true c11; clear c11
         by_cases c12 : a1 < (l0.length : Int)
         ·rw [if_pos c12] at H; have c12b0 := decide_eq_true c12; clear c12; obtain ⟨t106, A130, H⟩ := bnd H; have A13 := Aside0.mk A130; clear A130
          by_cases c14 : t106 < 0
          ·rw [if_pos c14] at H; have c14b0 := decide_eq_true c14; clear c14; have H' := Aside0.mk H; clear H; (try go_wp2); replace HO_0 := Aside0.mk (Kd.R_drew HO_0.out); replace HI4 := Aside0.mk (IsS37.drew HI4.out); replace HK := Aside0.mk (Kept.drew HK.out); replace HB := Aside0.mk (below_drew1 HB.out); obtain ⟨Ao16, co16, eo16⟩ := Kd.R_slice HO_0.out; (first | subst eo16 | (injection eo16 with f1_ f2_ f3_; have f4_ := f1_.symm; have f5_ := f3_.symm; clear f1_ f2_ f3_; subst f4_; subst f5_)); have p104 : 0 ≤ ((ji8) : Int) := of_decide_eq_true pbb2_4; have q104 : (ji8) < (l0.length : Int) := of_decide_eq_true pbb2_4; obtain ⟨ad104, e104, hx104_0⟩ := Kd.at_int (Kd.R_reads' HO_0.out).2.2 (ji8) p104 q104
           cases e104
           replace p104 := eq_true p104; replace q104 := eq_true q104; have p105 : 0 ≤ (a1 : Int) := of_decide_eq_true pbb2_4; have q105 : a1 < (l0.length : Int) := of_decide_eq_true pbb2_4; obtain ⟨ad105, e105, hx105_0⟩ := Kd.at_int (Kd.R_reads' HO_0.out).2.2 a1 p105 q105; obtain rfl : ad104 = ad105 := (by injection e105); replace p105 := eq_true p105; replace q105 := eq_true q105; refine start_ (n := 11) (S := fun w' => w'.cell? (ad104.add ((ji8)).toNat) = some (.int .i64 (rd l0 (ji8))) ∧ w'.cell? (ad104.add (a1).toNat) = some (.int .i64 (rd l0 a1))) (ds := []) (bq 11 0) (by kernel_rfl) rfl rfl ⟨hx104_0, hx105_0⟩ (fun hHeld => ?_); refine with_tabW F84.tab5 F84.bits5 (fun HT_ HW_ => ?_); generalize wr.drew = w15 at HO_0 HI4 HK HB hx104_0 hx105_0 hHeld ⊢; refine pv_ 0 40 (bq 11 1) HT_ ?_; refine pv_ 1 41 (bq 11 3) HT_ ?_; refine pv_ 2 42 (bq 11 7) HT_ ?_; refine pv_ 3 43 (bq 11 15) HT_ ?_; refine pv_ 5 45 (bq 11 47) HT_ ?_; refine pv_ 6 46 (bq 11 111) HT_ ?_; refine pv_ 7 47 (bq 11 239) HT_ ?_; refine take_ (i := 4) (N := some 44) (v := ?_) (a' := ?_) (bq 11 255) rfl rfl (take_ofW HT_.out HW_.out (by kernel_rfl)) (fun _ _ _ h => h) (Or.inl ⟨by rfl, ?_⟩) hHeld ?_ ?_; rotate_left
           ·rintro w' ⟨s0, s1⟩; go_simp; (with_reducible rfl)
           rotate_left
           ·exact cbb2_0
           refine take_ (i := 8) (N := some 48) (v := ?_) (a' := ?_) (bq 11 511) rfl rfl (take_ofW HT_.out HW_.out (by kernel_rfl)) (fun _ _ _ h => h) (Or.inl ⟨by rfl, ?_⟩) hHeld ?_ ?_; rotate_left
           ·rintro w' ⟨s0, s1⟩; go_simp; (with_reducible rfl)
           rotate_left
           ·exact cbb2_0
           refine one_ (i := 9) (N := some 49) (bq 11 1023) rfl rfl (one_of HT_.out (by kernel_rfl)) (by decide) (fun K hK => ?_); refine goesF_ Tryd.func81 (by kernel_rfl) rfl #[.int .i64 (rd l0 (ji8)), .int .i64 (rd l0 a1), .pointer (some ⟨g, 0, none⟩)] (by rfl) rfl rfl (by rfl) (by (try simp only [List.map_toArray, List.map_cons, List.map_nil]); first | done | (simp only [hji8]; rfl) | rfl | (simp only [List.length_drop, List.length_take]; rfl)) ?_; (with_reducible refine (F81.calls (rd l0 (ji8)) (rd l0 a1) g s4_0 t106 w0 _ ?side1 ?side2 A13.out).mono ?_); (case side1 => repeat (first | (with_reducible first | exact HI4.out | apply IsS37.alloc | apply IsS37.drewN | apply IsS37.drew) | exact HI4.out)); (case side2 => repeat (first | (with_reducible first | exact HB.out | apply below_alloc | apply pw_below_drewN | apply below_drew1 | refine below_set ?_ (IsS37.ge HI4.out)) | exact HB.out)); rintro e w17 ⟨rfl, hi, hb, hk⟩; have HS0_ := keep_cell hk (hHeld.1) pbb6_0; have HS1_ := keep_cell hk (hHeld.2) pbb6_0; refine ⟨_, rfl, ?_⟩; replace HO_0 := Aside0.mk (Kd.R_mono (Kd.R_keep (IsS37.apart (show IsS37 w0 _ g s4_0 from by repeat (first | (with_reducible first | exact HI4.out | apply IsS37.alloc | apply IsS37.drewN | apply IsS37.drew) | exact HI4.out)) pbb5_7 (by decide)) hk (fun _ h => h.2)) (fun _ h => h.1)); replace HK := Aside0.mk (Kept.of_keep (S := (fun k_ => (P0_ k_) ∨ k_ = g)) pbb5_5 hk (.inl (.inr rfl))); replace HB := Aside0.mk (hb); replace HI4 := Aside0.mk (hi); (try clear hb); (try clear hb2); (try clear hk); (try clear hi); refine hK.out _ _ ⟨HS0_, HS1_⟩ (fun hHeld => ?_); clear hK K; refine norm_ (a' := ?_) ?_ ?_; rotate_left
           ·show Act.put _ (some 49) _ = _; simp only [Act.put, List.setIfInBounds_toArray, List.set_cons_zero, List.set_cons_succ, i64_w, i32_w]
            rfl
           refine pv_ 10 50 (bq 11 2047) HT_ ?_; refine done_ (done_of HT_.out (by kernel_rfl)) ?_; (try go_wp2)
           go_roundg k1
           case measure => have := HK1.out; omega
           case rel => exact ⟨(wrap64 ((ji8) + 1)), (x11_1), (by first | rfl | (simp; done) | (simp only [← hji8] <;> (first | rfl | simp)) | (simp [*]; done)), pbb2_0, H', ⟨pbb6_1⟩, ⟨pbb5_7⟩, ⟨pbb5_9⟩, ⟨pbb5_5⟩, ⟨pbb5_10⟩⟩
          ·rw [if_neg c14] at H; have c14b0 := decide_eq_false c14; clear c14; have H' := Aside0.mk H; clear H; (try go_wp2); replace HO_0 := Aside0.mk (Kd.R_drew HO_0.out); replace HI4 := Aside0.mk (IsS37.drew HI4.out); replace HK := Aside0.mk (Kept.drew HK.out); replace HB := Aside0.mk (below_drew1 HB.out); obtain ⟨Ao19, co19, eo19⟩ := Kd.R_slice HO_0.out; (first | subst eo19 | (injection eo19 with f1_ f2_ f3_; have f4_ := f1_.symm; have f5_ := f3_.symm; clear f1_ f2_ f3_; subst f4_; subst f5_)); have p104 : 0 ≤ ((ji8) : Int) := of_decide_eq_true pbb2_4; have q104 : (ji8) < (l0.length : Int) := of_decide_eq_true pbb2_4; obtain ⟨ad104, e104, hx104_0⟩ := Kd.at_int (Kd.R_reads' HO_0.out).2.2 (ji8) p104 q104
           cases e104
           replace p104 := eq_true p104; replace q104 := eq_true q104; have p105 : 0 ≤ (a1 : Int) := of_decide_eq_true pbb2_4; have q105 : a1 < (l0.length : Int) := of_decide_eq_true pbb2_4; obtain ⟨ad105, e105, hx105_0⟩ := Kd.at_int (Kd.R_reads' HO_0.out).2.2 a1 p105 q105; obtain rfl : ad104 = ad105 := (by injection e105); replace p105 := eq_true p105; replace q105 := eq_true q105; refine start_ (n := 11) (S := fun w' => w'.cell? (ad104.add ((ji8)).toNat) = some (.int .i64 (rd l0 (ji8))) ∧ w'.cell? (ad104.add (a1).toNat) = some (.int .i64 (rd l0 a1))) (ds := []) (bq 11 0) (by kernel_rfl) rfl rfl ⟨hx104_0, hx105_0⟩ (fun hHeld => ?_); refine with_tabW F84.tab5 F84.bits5 (fun HT_ HW_ => ?_); generalize wr.drew = w18 at HO_0 HI4 HK HB hx104_0 hx105_0 hHeld ⊢; refine pv_ 0 40 (bq 11 1) HT_ ?_; refine pv_ 1 41 (bq 11 3) HT_ ?_; refine pv_ 2 42 (bq 11 7) HT_ ?_; refine pv_ 3 43 (bq 11 15) HT_ ?_; refine pv_ 5 45 (bq 11 47) HT_ ?_; refine pv_ 6 46 (bq 11 111) HT_ ?_; refine pv_ 7 47 (bq 11 239) HT_ ?_; refine take_ (i := 4) (N := some 44) (v := ?_) (a' := ?_) (bq 11 255) rfl rfl (take_ofW HT_.out HW_.out (by kernel_rfl)) (fun _ _ _ h => h) (Or.inl ⟨by rfl, ?_⟩) hHeld ?_ ?_; rotate_left
           ·rintro w' ⟨s0, s1⟩; go_simp; (with_reducible rfl)
           rotate_left
           ·exact cbb2_0
           refine take_ (i := 8) (N := some 48) (v := ?_) (a' := ?_) (bq 11 511) rfl rfl (take_ofW HT_.out HW_.out (by kernel_rfl)) (fun _ _ _ h => h) (Or.inl ⟨by rfl, ?_⟩) hHeld ?_ ?_; rotate_left
           ·rintro w' ⟨s0, s1⟩; go_simp; (with_reducible rfl)
           rotate_left
           ·exact cbb2_0
           refine one_ (i := 9) (N := some 49) (bq 11 1023) rfl rfl (one_of HT_.out (by kernel_rfl)) (by decide) (fun K hK => ?_); refine goesF_ Tryd.func81 (by kernel_rfl) rfl #[.int .i64 (rd l0 (ji8)), .int .i64 (rd l0 a1), .pointer (some ⟨g, 0, none⟩)] (by rfl) rfl rfl (by rfl) (by (try simp only [List.map_toArray, List.map_cons, List.map_nil]); first | done | (simp only [hji8]; rfl) | rfl | (simp only [List.length_drop, List.length_take]; rfl)) ?_; (with_reducible refine (F81.calls (rd l0 (ji8)) (rd l0 a1) g s4_0 t106 w0 _ ?side1 ?side2 A13.out).mono ?_); (case side1 => repeat (first | (with_reducible first | exact HI4.out | apply IsS37.alloc | apply IsS37.drewN | apply IsS37.drew) | exact HI4.out)); (case side2 => repeat (first | (with_reducible first | exact HB.out | apply below_alloc | apply pw_below_drewN | apply below_drew1 | refine below_set ?_ (IsS37.ge HI4.out)) | exact HB.out)); rintro e w20 ⟨rfl, hi, hb, hk⟩; have HS0_ := keep_cell hk (hHeld.1) pbb6_0; have HS1_ := keep_cell hk (hHeld.2) pbb6_0; refine ⟨_, rfl, ?_⟩; replace HO_0 := Aside0.mk (Kd.R_mono (Kd.R_keep (IsS37.apart (show IsS37 w0 _ g s4_0 from by repeat (first | (with_reducible first | exact HI4.out | apply IsS37.alloc | apply IsS37.drewN | apply IsS37.drew) | exact HI4.out)) pbb5_7 (by decide)) hk (fun _ h => h.2)) (fun _ h => h.1)); replace HK := Aside0.mk (Kept.of_keep (S := (fun k_ => (P0_ k_) ∨ k_ = g)) pbb5_5 hk (.inl (.inr rfl))); replace HB := Aside0.mk (hb); replace HI4 := Aside0.mk (hi); (try clear hb); (try clear hb2); (try clear hk); (try clear hi); refine hK.out _ _ ⟨HS0_, HS1_⟩ (fun hHeld => ?_); clear hK K; refine norm_ (a' := ?_) ?_ ?_; rotate_left
           ·show Act.put _ (some 49) _ = _; simp only [Act.put, List.setIfInBounds_toArray, List.set_cons_zero, List.set_cons_succ, i64_w, i32_w]
            rfl
           refine pv_ 10 50 (bq 11 2047) HT_ ?_; refine done_ (done_of HT_.out (by kernel_rfl)) ?_; (try go_wp2)
           go_roundg k1
           case measure => have := HK1.out; omega
           case rel => exact ⟨(x10_1), (ji8), pbb2_0, (by first | rfl | (simp; done) | (simp only [← hji8] <;> (first | rfl | simp)) | (simp [*]; done)), H', ⟨pbb6_1⟩, ⟨pbb5_7⟩, ⟨pbb5_9⟩, ⟨pbb5_5⟩, ⟨pbb5_10⟩⟩
         ·rw [if_neg c12] at H; exact absurd H (by simp)
        ·rw [if_neg c11] at H; exact absurd H (by simp)
       ·rw [if_neg c10] at H; exact absurd H (by simp)
      ·rw [if_neg c9] at H; exact absurd H (by simp)
     ·rw [if_neg c7] at H; have c7b0 := decide_eq_false c7; clear c7; have H' := Aside0.mk H; clear H
      go_wp2
      go_loopg [13] k1 (fun kq v13 w' => ∃ (x0_2 : List Int) (x13_2 : Int), v13 = .int .i64 x13_2 ∧ Aside0 (F84.l1 kq x0_2 x10_1 x13_2 = some r) ∧ Aside0 (kq ≤ k1) ∧ Aside0 (Kd.R (Kd.int .i64) 3 w' w0.heap.size (fun k_ => (P0_ k_ ∨ w.heap.size ≤ k_)) u9000_ x0_2) ∧ Aside0 (IsS37 w0 w' g s4_0) ∧ Aside0 (Kept w w' (fun k_ => (P0_ k_) ∨ k_ = g)) ∧ Aside0 (Below w0.heap.size w0 w'))
      case atStart => exact ⟨(l0), (a1), pbb2_0, H', ⟨Nat.le_refl _⟩, ⟨pbb5_7⟩, ⟨pbb5_9⟩, ⟨pbb5_5⟩, ⟨pbb5_10⟩⟩
      case round =>
       as_aux_lemma =>
        clear H'; obtain ⟨x0_2, x13_2, rfl, HA, HK2, HO_0, HI4, HK, HB⟩ := hrel
        cases gk with
        | zero => exact absurd HA.out (by simp [F84.l1])
        | succ k2 =>
         have H := HA.out; clear HA; simp only [F84.l1] at H
         by_cases c21 : x13_2 < (wrap64 (x10_1 - 1))
         ·rw [if_pos c21] at H; have c21b0 := decide_eq_true c21; clear c21; obtain ⟨ji22, hji22⟩ : ∃ j_ : Int, (wrap64 (x13_2 + 1)) = j_ := ⟨_, rfl⟩; (first | rw [hji22] at H | simp only [hji22] at H); have hji22w : (IntKind.i64.wrap (x13_2 + 1)) = ji22 := (i64_w _).trans hji22
          by_cases c23 : 0 ≤ (ji22)
          ·rw [if_pos c23] at H; have c23b0 := decide_eq_true c23; clear c23
           by_cases c24 : (ji22) < (x0_2.length : Int)
           ·rw [if_pos c24] at H; have c24b0 := decide_eq_true c24; clear c24
            by_cases c25 : 0 ≤ x13_2
            ·rw [if_pos c25] at H; have c25b0 := decide_eq_true c25; clear c25
             by_cases c26 : x13_2 < (x0_2.length : Int)
             ·rw [if_pos c26] at H; have c26b0 := decide_eq_true c26; clear c26; obtain ⟨y109, hy109⟩ : ∃ y_ : List Int, y_ = (x0_2.set (x13_2 : Int).toNat (rd x0_2 (ji22))) := ⟨_, rfl⟩; replace H : (F84.l1 k2 (y109.set ((ji22) : Int).toNat (rd x0_2 x13_2)) x10_1 ji22) = some r := by first | (rw [hy109]; with_reducible exact H) | (have H2_ := (Option.bind_some _ _).symm.trans H; rw [hy109]; with_reducible exact H2_) | (have H2_ := (Option.bind_some _ _).symm.trans H; with_reducible exact H2_) | with_reducible exact H | (rw [hy109]; exact H) | exact H
              have Ny109 := Aside0.mk hy109; clear hy109; obtain ⟨y110, hy110⟩ : ∃ y_ : List Int, y_ = (y109.set ((ji22) : Int).toNat (rd x0_2 x13_2)) := ⟨_, rfl⟩; replace H : (F84.l1 k2 y110 x10_1 ji22) = some r := by first | (rw [hy110]; with_reducible exact H) | (have H2_ := (Option.bind_some _ _).symm.trans H; rw [hy110]; with_reducible exact H2_) | (have H2_ := (Option.bind_some _ _).symm.trans H; with_reducible exact H2_) | with_reducible exact H | (rw [hy110]; exact H) | exact H
              have Ny110 := Aside0.mk hy110; clear hy110; have H' := Aside0.mk H; clear H; (try go_wp2); replace HO_0 := Aside0.mk (Kd.R_drew HO_0.out); replace HI4 := Aside0.mk (IsS37.drew HI4.out); replace HK := Aside0.mk (Kept.drew HK.out); replace HB := Aside0.mk (below_drew1 HB.out); obtain ⟨Ao30, co30, eo30⟩ := Kd.R_slice HO_0.out; (first | subst eo30 | (injection eo30 with f1_ f2_ f3_; have f4_ := f1_.symm; have f5_ := f3_.symm; clear f1_ f2_ f3_; subst f4_; subst f5_)); have p107 : 0 ≤ ((ji22) : Int) := of_decide_eq_true pbb2_4; have q107 : (ji22) < (x0_2.length : Int) := of_decide_eq_true pbb2_4; obtain ⟨ad107, e107, hx107_0⟩ := Kd.at_int (Kd.R_reads' HO_0.out).2.2 (ji22) p107 q107
              cases e107
              replace p107 := eq_true p107; replace q107 := eq_true q107; have p108 : 0 ≤ (x13_2 : Int) := of_decide_eq_true pbb2_4; have q108 : x13_2 < (x0_2.length : Int) := of_decide_eq_true pbb2_4; obtain ⟨ad108, e108, hx108_0⟩ := Kd.at_int (Kd.R_reads' HO_0.out).2.2 x13_2 p108 q108; obtain rfl : ad107 = ad108 := (by injection e108); replace p108 := eq_true p108; replace q108 := eq_true q108; have p27 : 0 ≤ (x13_2 : Int) := of_decide_eq_true pbb2_4; have q27 : (x13_2 : Int) < ((x0_2.length : Int) : Int) := of_decide_eq_true pbb2_4; obtain ⟨go27, co27, eo27, gb27, gl27, cl27, HG27⟩ := Kd.R_form HO_0.out (by omega); (first | cases eo27 | (injection eo27 with ea_ en_ ec_; (first | subst ea_ | (injection ea_ with ea_; subst ea_)); subst ec_; clear en_)); have GB27 := Aside0.mk gb27; have GG27 := Aside0.mk HG27; clear gb27 gl27 HG27; have HMgo27 := Aside0.mk (show (P0_ go27 ∨ w.heap.size ≤ go27) from (HO_0.out.1 _ rfl)); (first | simp only [add_plain] at hx107_0 | skip); (first | simp only [add_plain] at hx108_0 | skip); obtain ⟨hx27_0, hf27_0⟩ := Kd.R_celln 0 HO_0.out (x13_2 : Int) p27 q27; replace p27 := eq_true p27; replace q27 := eq_true q27; have HN4_go27 := Aside0.mk (show g ≠ go27 from by have h_ := IsS37.own_ne HI4.out HO_0.out (by decide); intro e_; exact h_ (by rw [e_]; rfl)); have HP31 := Kd.R_putn HO_0.out (x13_2 : Int) (rd x0_2 (ji22)); rw [← Ny109.out] at HP31; have HQ31 := Aside0.mk HP31; clear HP31; have p28 : 0 ≤ ((ji22) : Int) := of_decide_eq_true pbb2_4; have q28 : ((ji22) : Int) < ((x0_2.length : Int) : Int) := of_decide_eq_true pbb2_4; obtain ⟨hx28_0, hf28_0⟩ := Kd.R_celln 0 HQ31.out ((ji22) : Int) p28 q28; replace p28 := eq_true p28; replace q28 := eq_true q28; have HN4_go27 := Aside0.mk (show g ≠ go27 from by have h_ := IsS37.own_ne HI4.out HO_0.out (by decide); intro e_; exact h_ (by rw [e_]; rfl)); have HP32 := Kd.R_putn HQ31.out ((ji22) : Int) (rd x0_2 x13_2); rw [← Ny110.out] at HP32; have HQ32 := Aside0.mk HP32; clear HP32; refine start_ (n := 18) (S := fun w' => w'.cell? ⟨go27, ((ji22)).toNat, none⟩ = some (.int .i64 (rd x0_2 (ji22))) ∧ w'.cell? ⟨go27, (x13_2).toNat, none⟩ = some (.int .i64 (rd x0_2 x13_2))) (ds := [15, 17]) (bq 18 0) (by kernel_rfl) rfl rfl ⟨hx107_0, hx108_0⟩ (fun hHeld => ?_); refine with_tabW F84.tab11 F84.bits11 (fun HT_ HW_ => ?_); generalize wr.drew = w29 at HO_0 HI4 HK HB GG27 HQ31 HQ32 hf27_0 hf28_0 hx107_0 hx108_0 hx27_0 hx28_0 hHeld ⊢; refine pv_ 0 61 (bq 18 1) HT_ ?_; refine pv_ 1 62 (bq 18 3) HT_ ?_; refine pv_ 2 63 (bq 18 7) HT_ ?_; refine pv_ 3 64 (bq 18 15) HT_ ?_; refine pv_ 4 65 (bq 18 31) HT_ ?_; refine pv_ 5 66 (bq 18 63) HT_ ?_; refine pv_ 6 67 (bq 18 127) HT_ ?_; refine pv_ 7 68 (bq 18 255) HT_ ?_; refine pv_ 8 69 (bq 18 511) HT_ ?_; refine pv_ 10 71 (bq 18 1535) HT_ ?_; refine pv_ 11 72 (bq 18 3583) HT_ ?_; refine pv_ 12 73 (bq 18 7679) HT_ ?_; refine take_ (i := 9) (N := some 70) (v := ?_) (a' := ?_) (bq 18 8191) rfl rfl (take_ofW HT_.out HW_.out (by kernel_rfl)) (fun _ _ _ h => h) (Or.inl ⟨by rfl, ?_⟩) hHeld ?_ ?_; rotate_left
              ·rintro w' ⟨s0, s1⟩; go_simp; (with_reducible rfl)
              rotate_left
              ·exact cbb2_0
              refine take_ (i := 13) (N := some 74) (v := ?_) (a' := ?_) (bq 18 16383) rfl rfl (take_ofW HT_.out HW_.out (by kernel_rfl)) (fun _ _ _ h => h) (Or.inl ⟨by rfl, ?_⟩) hHeld ?_ ?_; rotate_left
              ·rintro w' ⟨s0, s1⟩; go_simp; (with_reducible rfl)
              rotate_left
              ·exact cbb2_0
              refine pv_ 14 75 (bq 18 32767) HT_ ?_; refine last_ (i := 15) (N := none) (bq 18 65535) rfl rfl (one_of HT_.out (by kernel_rfl)) (by decide) (fun K hK => ?_); refine skip_ (w1 := ?_) (by rfl) rfl ?_ ?_; rotate_left
              ·go_simp
               rfl
              refine hK.out _ _ ?_; clear hK K; refine pv_ 16 76 (bq 18 131071) HT_ ?_; refine last_ (i := 17) (N := none) (bq 18 262143) rfl rfl (one_of HT_.out (by kernel_rfl)) (by decide) (fun K hK => ?_); refine skip_ (w1 := ?_) (by rfl) rfl ?_ ?_; rotate_left
              ·go_simp
               rfl
              refine hK.out _ _ ?_; clear hK K; refine done_ (done_of HT_.out (by kernel_rfl)) ?_; (try go_wp2)
              go_roundg k2
              case measure => have := HK1.out; have := HK2.out; omega
              case rel => exact ⟨(y110), (ji22), (by first | rfl | (simp; done) | (simp only [← hji22] <;> (first | rfl | simp)) | (simp [*]; done)), H', ⟨by have := HK1.out; have := HK2.out; omega⟩, ⟨by (with_reducible repeat (first | apply Kd.R_alloc | apply Kd.R_drewN | apply Kd.R_drew)); exact HQ32.out⟩, ⟨by repeat (first | (with_reducible first | exact HI4.out | apply IsS37.alloc | apply IsS37.drewN | apply IsS37.drew | refine IsS37.far ?_ HN4_go27.out _ | refine IsS37.far ?_ HN4_go27.out _) | exact HI4.out)⟩, ⟨by repeat (first | (with_reducible first | exact HK.out | apply Kept.alloc | apply Kept.drewN | apply Kept.drew | refine Kept.setCell ?_ (Or.imp_left Or.inl HMgo27.out) _ | refine Kept.setCell ?_ (Or.imp_left Or.inl HMgo27.out) _ | refine Kept.setCell ?_ (.inl (.inr rfl)) _) | exact HK.out)⟩, ⟨by repeat (first | (with_reducible first | exact HB.out | apply below_alloc | apply pw_below_drewN | apply below_drew1 | refine below_set ?_ GB27.out | refine below_set ?_ GB27.out | refine below_set ?_ (IsS37.ge HI4.out)) | exact HB.out)⟩⟩
             ·rw [if_neg c26] at H; exact absurd H (by simp)
            ·rw [if_neg c25] at H; exact absurd H (by simp)
           ·rw [if_neg c24] at H; exact absurd H (by simp)
          ·rw [if_neg c23] at H; exact absurd H (by simp)
         ·rw [if_neg c21] at H; have c21b0 := decide_eq_false c21; clear c21; obtain rfl := Option.some.inj H
          go_wp2
          first | go_end0 | ((try simp only [Exit.inBlock, Exit.then]); refine bodyPost_ret (results_none rfl _ _ _) rfl ?_)
          exact ⟨pbb2_5, pbb5_9, pbb5_7, pbb5_10, pbb5_5⟩
 ·rw [if_neg c6] at H; have c6b0 := nF_ c6; have c6b1 := nT_ c6
  by_cases c33 : (wrap64 (a3 - a2)) = 1
  ·rw [if_pos c33] at H; have c33b0 := bT_ c33; have c33b1 := bF_ c33; clear c33; have H' := Aside0.mk H; clear H; go_enter Tryd.func84, Tryd.ntmps84
   go_wp2
   go_loopg [14, 15] k (fun kq v14 v15 w' => ∃ (x14_1 : Int) (x15_1 : Int), v14 = .int .i64 x14_1 ∧ v15 = .int .i64 x15_1 ∧ Aside0 (F84.l2 kq l0 a2 x14_1 x15_1 s4_0 = some r) ∧ Aside0 (kq ≤ k) ∧ Aside0 (Kd.R (Kd.int .i64) 3 w' w0.heap.size (fun k_ => (P0_ k_ ∨ w.heap.size ≤ k_)) u9000_ l0) ∧ Aside0 (IsS37 w0 w' g s4_0) ∧ Aside0 (Kept w w' (fun k_ => (P0_ k_) ∨ k_ = g)) ∧ Aside0 (Below w0.heap.size w0 w'))
   case atStart => exact ⟨(a1), (a2), pbb2_0, pbb2_0, H', ⟨Nat.le_refl _⟩, ⟨pbb5_3⟩, ⟨pbb5_9⟩, ⟨pbb5_5⟩, ⟨pbb5_10⟩⟩
   case round =>
    as_aux_lemma =>
     clear H'; (try clear hf27); (try clear hf28); obtain ⟨x14_1, x15_1, rfl, rfl, HA, HK1, HO_0, HI4, HK, HB⟩ := hrel
     cases gk with
     | zero => exact absurd HA.out (by simp [F84.l2])
     | succ k1 =>
      have H := HA.out; clear HA; simp only [F84.l2] at H
      by_cases c34 : x14_1 < x15_1
      ·rw [if_pos c34] at H; have c34b0 := decide_eq_true c34; clear c34
       by_cases c35 : 0 ≤ a2
       ·rw [if_pos c35] at H; have c35b0 := decide_eq_true c35; clear c35
        by_cases c36 : a2 < (l0.length : Int)
        ·rw [if_pos c36] at H; have c36b0 := decide_eq_true c36; clear c36; obtain ⟨ji37, hji37⟩ : ∃ j_ : Int, (wrap64 ((IntKind.u64.wrap (wrap64 (x14_1 + x15_1))) / 2)) = j_ := ⟨_, rfl⟩; (first | rw [hji37] at H | simp only [hji37] at H); have hji37w : (IntKind.i64.wrap ((IntKind.u64.wrap (wrap64 (x14_1 + x15_1))) / 2)) = ji37 := (i64_w _).trans hji37
         by_cases c38 : 0 ≤ (ji37)
         ·rw [if_pos c38] at H; have c38b0 := decide_eq_true c38; clear c38
          by_cases c39 : (ji37) < (l0.length : Int)
          ·rw [if_pos c39] at H; have c39b0 := decide_eq_true c39; clear c39; obtain ⟨t113, A400, H⟩ := bnd H; have A40 := Aside0.mk A400; clear A400
           by_cases c41 : t113 < 0
           ·rw [if_pos c41] at H; have c41b0 := decide_eq_true c41; clear c41; have H' := Aside0.mk H; clear H; (try go_wp2); replace HO_0 := Aside0.mk (Kd.R_drew HO_0.out); replace HI4 := Aside0.mk (IsS37.drew HI4.out); replace HK := Aside0.mk (Kept.drew HK.out); replace HB := Aside0.mk (below_drew1 HB.out); obtain ⟨Ao43, co43, eo43⟩ := Kd.R_slice HO_0.out; (first | subst eo43 | (injection eo43 with f1_ f2_ f3_; have f4_ := f1_.symm; have f5_ := f3_.symm; clear f1_ f2_ f3_; subst f4_; subst f5_)); have p111 : 0 ≤ (a2 : Int) := of_decide_eq_true pbb2_4; have q111 : a2 < (l0.length : Int) := of_decide_eq_true pbb2_4; obtain ⟨ad111, e111, hx111_0⟩ := Kd.at_int (Kd.R_reads' HO_0.out).2.2 a2 p111 q111
            cases e111
            replace p111 := eq_true p111; replace q111 := eq_true q111; have p112 : 0 ≤ ((ji37) : Int) := of_decide_eq_true pbb2_4; have q112 : (ji37) < (l0.length : Int) := of_decide_eq_true pbb2_4; obtain ⟨ad112, e112, hx112_0⟩ := Kd.at_int (Kd.R_reads' HO_0.out).2.2 (ji37) p112 q112; obtain rfl : ad111 = ad112 := (by injection e112); replace p112 := eq_true p112; replace q112 := eq_true q112; refine start_ (n := 12) (S := fun w' => w'.cell? (ad111.add (a2).toNat) = some (.int .i64 (rd l0 a2)) ∧ w'.cell? (ad111.add ((ji37)).toNat) = some (.int .i64 (rd l0 (ji37)))) (ds := []) (bq 12 0) (by kernel_rfl) rfl rfl ⟨hx111_0, hx112_0⟩ (fun hHeld => ?_); refine with_tabW F84.tab17 F84.bits17 (fun HT_ HW_ => ?_); generalize wr.drew = w42 at HO_0 HI4 HK HB hx111_0 hx112_0 hHeld ⊢; refine pv_ 0 92 (bq 12 1) HT_ ?_; refine pv_ 1 93 (bq 12 3) HT_ ?_; refine pv_ 2 94 (bq 12 7) HT_ ?_; refine pv_ 3 95 (bq 12 15) HT_ ?_; refine pv_ 5 97 (bq 12 47) HT_ ?_; refine pv_ 6 98 (bq 12 111) HT_ ?_; refine pv_ 7 99 (bq 12 239) HT_ ?_; refine take_ (i := 4) (N := some 96) (v := ?_) (a' := ?_) (bq 12 255) rfl rfl (take_ofW HT_.out HW_.out (by kernel_rfl)) (fun _ _ _ h => h) (Or.inl ⟨by rfl, ?_⟩) hHeld ?_ ?_; rotate_left
            ·rintro w' ⟨s0, s1⟩; go_simp; (with_reducible rfl)
            rotate_left
            ·exact cbb2_0
            refine take_ (i := 8) (N := some 100) (v := ?_) (a' := ?_) (bq 12 511) rfl rfl (take_ofW HT_.out HW_.out (by kernel_rfl)) (fun _ _ _ h => h) (Or.inl ⟨by rfl, ?_⟩) hHeld ?_ ?_; rotate_left
            ·rintro w' ⟨s0, s1⟩; go_simp; (with_reducible rfl)
            rotate_left
            ·exact cbb2_0
            refine one_ (i := 9) (N := some 101) (bq 12 1023) rfl rfl (one_of HT_.out (by kernel_rfl)) (by decide) (fun K hK => ?_); refine goesF_ Tryd.func81 (by kernel_rfl) rfl #[.int .i64 (rd l0 a2), .int .i64 (rd l0 (ji37)), .pointer (some ⟨g, 0, none⟩)] (by rfl) rfl rfl (by rfl) (by (try simp only [List.map_toArray, List.map_cons, List.map_nil]); first | done | (simp only [hji37]; rfl) | rfl | (simp only [List.length_drop, List.length_take]; rfl)) ?_; (with_reducible refine (F81.calls (rd l0 a2) (rd l0 (ji37)) g s4_0 t113 w0 _ ?side1 ?side2 A40.out).mono ?_); (case side1 => repeat (first | (with_reducible first | exact HI4.out | apply IsS37.alloc | apply IsS37.drewN | apply IsS37.drew) | exact HI4.out)); (case side2 => repeat (first | (with_reducible first | exact HB.out | apply below_alloc | apply pw_below_drewN | apply below_drew1 | refine below_set ?_ (IsS37.ge HI4.out)) | exact HB.out)); rintro e w44 ⟨rfl, hi, hb, hk⟩; have HS0_ := keep_cell hk (hHeld.1) pbb6_0; have HS1_ := keep_cell hk (hHeld.2) pbb6_0; refine ⟨_, rfl, ?_⟩; replace HO_0 := Aside0.mk (Kd.R_mono (Kd.R_keep (IsS37.apart (show IsS37 w0 _ g s4_0 from by repeat (first | (with_reducible first | exact HI4.out | apply IsS37.alloc | apply IsS37.drewN | apply IsS37.drew) | exact HI4.out)) pbb5_7 (by decide)) hk (fun _ h => h.2)) (fun _ h => h.1)); replace HK := Aside0.mk (Kept.of_keep (S := (fun k_ => (P0_ k_) ∨ k_ = g)) pbb5_5 hk (.inl (.inr rfl))); replace HB := Aside0.mk (hb); replace HI4 := Aside0.mk (hi); (try clear hb); (try clear hb2); (try clear hk); (try clear hi); refine hK.out _ _ ⟨HS0_, HS1_⟩ (fun hHeld => ?_); clear hK K; refine norm_ (a' := ?_) ?_ ?_; rotate_left
            ·show Act.put _ (some 101) _ = _; simp only [Act.put, List.setIfInBounds_toArray, List.set_cons_zero, List.set_cons_succ, i64_w, i32_w]
             rfl
            refine pv_ 10 102 (bq 12 2047) HT_ ?_; refine pv_ 11 103 (bq 12 4095) HT_ ?_; refine done_ (done_of HT_.out (by kernel_rfl)) ?_; (try go_wp2)
            go_roundg k1
            case measure => have := HK1.out; omega
            case rel => exact ⟨(x14_1), (ji37), pbb2_0, (by first | rfl | (simp; done) | (simp only [← hji37] <;> (first | rfl | simp)) | (simp [*]; done)), H', ⟨pbb6_1⟩, ⟨pbb5_7⟩, ⟨pbb5_9⟩, ⟨pbb5_5⟩, ⟨pbb5_10⟩⟩
           ·rw [if_neg c41] at H; have c41b0 := decide_eq_false c41; clear c41; have H' := Aside0.mk H; clear H; (try go_wp2); replace HO_0 := Aside0.mk (Kd.R_drew HO_0.out); replace HI4 := Aside0.mk (IsS37.drew HI4.out); replace HK := Aside0.mk (Kept.drew HK.out); replace HB := Aside0.mk (below_drew1 HB.out); obtain ⟨Ao46, co46, eo46⟩ := Kd.R_slice HO_0.out; (first | subst eo46 | (injection eo46 with f1_ f2_ f3_; have f4_ := f1_.symm; have f5_ := f3_.symm; clear f1_ f2_ f3_; subst f4_; subst f5_)); have p111 : 0 ≤ (a2 : Int) := of_decide_eq_true pbb2_4; have q111 : a2 < (l0.length : Int) := of_decide_eq_true pbb2_4; obtain ⟨ad111, e111, hx111_0⟩ := Kd.at_int (Kd.R_reads' HO_0.out).2.2 a2 p111 q111
            cases e111
            replace p111 := eq_true p111; replace q111 := eq_true q111; have p112 : 0 ≤ ((ji37) : Int) := of_decide_eq_true pbb2_4; have q112 : (ji37) < (l0.length : Int) := of_decide_eq_true pbb2_4; obtain ⟨ad112, e112, hx112_0⟩ := Kd.at_int (Kd.R_reads' HO_0.out).2.2 (ji37) p112 q112; obtain rfl : ad111 = ad112 := (by injection e112); replace p112 := eq_true p112; replace q112 := eq_true q112; refine start_ (n := 12) (S := fun w' => w'.cell? (ad111.add (a2).toNat) = some (.int .i64 (rd l0 a2)) ∧ w'.cell? (ad111.add ((ji37)).toNat) = some (.int .i64 (rd l0 (ji37)))) (ds := []) (bq 12 0) (by kernel_rfl) rfl rfl ⟨hx111_0, hx112_0⟩ (fun hHeld => ?_); refine with_tabW F84.tab17 F84.bits17 (fun HT_ HW_ => ?_); generalize wr.drew = w45 at HO_0 HI4 HK HB hx111_0 hx112_0 hHeld ⊢; refine pv_ 0 92 (bq 12 1) HT_ ?_; refine pv_ 1 93 (bq 12 3) HT_ ?_; refine pv_ 2 94 (bq 12 7) HT_ ?_; refine pv_ 3 95 (bq 12 15) HT_ ?_; refine pv_ 5 97 (bq 12 47) HT_ ?_; refine pv_ 6 98 (bq 12 111) HT_ ?_; refine pv_ 7 99 (bq 12 239) HT_ ?_; refine take_ (i := 4) (N := some 96) (v := ?_) (a' := ?_) (bq 12 255) rfl rfl (take_ofW HT_.out HW_.out (by kernel_rfl)) (fun _ _ _ h => h) (Or.inl ⟨by rfl, ?_⟩) hHeld ?_ ?_; rotate_left
            ·rintro w' ⟨s0, s1⟩; go_simp; (with_reducible rfl)
            rotate_left
            ·exact cbb2_0
            refine take_ (i := 8) (N := some 100) (v := ?_) (a' := ?_) (bq 12 511) rfl rfl (take_ofW HT_.out HW_.out (by kernel_rfl)) (fun _ _ _ h => h) (Or.inl ⟨by rfl, ?_⟩) hHeld ?_ ?_; rotate_left
            ·rintro w' ⟨s0, s1⟩; go_simp; (with_reducible rfl)
            rotate_left
            ·exact cbb2_0
            refine one_ (i := 9) (N := some 101) (bq 12 1023) rfl rfl (one_of HT_.out (by kernel_rfl)) (by decide) (fun K hK => ?_); refine goesF_ Tryd.func81 (by kernel_rfl) rfl #[.int .i64 (rd l0 a2), .int .i64 (rd l0 (ji37)), .pointer (some ⟨g, 0, none⟩)] (by rfl) rfl rfl (by rfl) (by (try simp only [List.map_toArray, List.map_cons, List.map_nil]); first | done | (simp only [hji37]; rfl) | rfl | (simp only [List.length_drop, List.length_take]; rfl)) ?_; (with_reducible refine (F81.calls (rd l0 a2) (rd l0 (ji37)) g s4_0 t113 w0 _ ?side1 ?side2 A40.out).mono ?_); (case side1 => repeat (first | (with_reducible first | exact HI4.out | apply IsS37.alloc | apply IsS37.drewN | apply IsS37.drew) | exact HI4.out)); (case side2 => repeat (first | (with_reducible first | exact HB.out | apply below_alloc | apply pw_below_drewN | apply below_drew1 | refine below_set ?_ (IsS37.ge HI4.out)) | exact HB.out)); rintro e w47 ⟨rfl, hi, hb, hk⟩; have HS0_ := keep_cell hk (hHeld.1) pbb6_0; have HS1_ := keep_cell hk (hHeld.2) pbb6_0; refine ⟨_, rfl, ?_⟩; replace HO_0 := Aside0.mk (Kd.R_mono (Kd.R_keep (IsS37.apart (show IsS37 w0 _ g s4_0 from by repeat (first | (with_reducible first | exact HI4.out | apply IsS37.alloc | apply IsS37.drewN | apply IsS37.drew) | exact HI4.out)) pbb5_7 (by decide)) hk (fun _ h => h.2)) (fun _ h => h.1)); replace HK := Aside0.mk (Kept.of_keep (S := (fun k_ => (P0_ k_) ∨ k_ = g)) pbb5_5 hk (.inl (.inr rfl))); replace HB := Aside0.mk (hb); replace HI4 := Aside0.mk (hi); (try clear hb); (try clear hb2); (try clear hk); (try clear hi); refine hK.out _ _ ⟨HS0_, HS1_⟩ (fun hHeld => ?_); clear hK K; refine norm_ (a' := ?_) ?_ ?_; rotate_left
            ·show Act.put _ (some 101) _ = _; simp only [Act.put, List.setIfInBounds_toArray, List.set_cons_zero, List.set_cons_succ, i64_w, i32_w]
             rfl
            refine pv_ 10 102 (bq 12 2047) HT_ ?_; refine pv_ 11 103 (bq 12 4095) HT_ ?_; refine done_ (done_of HT_.out (by kernel_rfl)) ?_; (try go_wp2)
            go_roundg k1
            case measure => have := HK1.out; omega
            case rel => exact ⟨(wrap64 ((ji37) + 1)), (x15_1), (by first | rfl | (simp; done) | (simp only [← hji37] <;> (first | rfl | simp)) | (simp [*]; done)), pbb2_0, H', ⟨pbb6_1⟩, ⟨pbb5_7⟩, ⟨pbb5_9⟩, ⟨pbb5_5⟩, ⟨pbb5_10⟩⟩
          ·rw [if_neg c39] at H; exact absurd H (by simp)
         ·rw [if_neg c38] at H; exact absurd H (by simp)
        ·rw [if_neg c36] at H; exact absurd H (by simp)
       ·rw [if_neg c35] at H; exact absurd H (by simp)
      ·rw [if_neg c34] at H; have c34b0 := decide_eq_false c34; clear c34; have H' := Aside0.mk H; clear H
       go_wp2
       go_loopg [17] k1 (fun kq v17 w' => ∃ (x0_2 : List Int) (x17_2 : Int), v17 = .int .i64 x17_2 ∧ Aside0 (F84.l3 kq x0_2 x14_1 x17_2 = some r) ∧ Aside0 (kq ≤ k1) ∧ Aside0 (Kd.R (Kd.int .i64) 3 w' w0.heap.size (fun k_ => (P0_ k_ ∨ w.heap.size ≤ k_)) u9000_ x0_2) ∧ Aside0 (IsS37 w0 w' g s4_0) ∧ Aside0 (Kept w w' (fun k_ => (P0_ k_) ∨ k_ = g)) ∧ Aside0 (Below w0.heap.size w0 w'))
       case atStart => exact ⟨(l0), (a2), pbb2_0, H', ⟨Nat.le_refl _⟩, ⟨pbb5_7⟩, ⟨pbb5_9⟩, ⟨pbb5_5⟩, ⟨pbb5_10⟩⟩
       case round =>
        as_aux_lemma =>
         clear H'; (try clear hf27); (try clear hf28); obtain ⟨x0_2, x17_2, rfl, HA, HK2, HO_0, HI4, HK, HB⟩ := hrel
         cases gk with
         | zero => exact absurd HA.out (by simp [F84.l3])
         | succ k2 =>
          have H := HA.out; clear HA; simp only [F84.l3] at H
          by_cases c48 : x17_2 > x14_1
          ·rw [if_pos c48] at H; have c48b0 : decide (x14_1 < x17_2) = true := decide_eq_true c48; clear c48; obtain ⟨ji49, hji49⟩ : ∃ j_ : Int, (wrap64 (x17_2 - 1)) = j_ := ⟨_, rfl⟩; (first | rw [hji49] at H | simp only [hji49] at H); have hji49w : (IntKind.i64.wrap (x17_2 - 1)) = ji49 := (i64_w _).trans hji49
           by_cases c50 : 0 ≤ (ji49)
           ·rw [if_pos c50] at H; have c50b0 := decide_eq_true c50; clear c50
            by_cases c51 : (ji49) < (x0_2.length : Int)
            ·rw [if_pos c51] at H; have c51b0 := decide_eq_true c51; clear c51
             by_cases c52 : 0 ≤ x17_2
             ·rw [if_pos c52] at H; have c52b0 := decide_eq_true c52; clear c52
              by_cases c53 : x17_2 < (x0_2.length : Int)
              ·rw [if_pos c53] at H; have c53b0 := decide_eq_true c53; clear c53; obtain ⟨y116, hy116⟩ : ∃ y_ : List Int, y_ = (x0_2.set (x17_2 : Int).toNat (rd x0_2 (ji49))) := ⟨_, rfl⟩; replace H : (F84.l3 k2 (y116.set ((ji49) : Int).toNat (rd x0_2 x17_2)) x14_1 ji49) = some r := by first | (rw [hy116]; with_reducible exact H) | (have H2_ := (Option.bind_some _ _).symm.trans H; rw [hy116]; with_reducible exact H2_) | (have H2_ := (Option.bind_some _ _).symm.trans H; with_reducible exact H2_) | with_reducible exact H | (rw [hy116]; exact H) | exact H
               have Ny116 := Aside0.mk hy116; clear hy116; obtain ⟨y117, hy117⟩ : ∃ y_ : List Int, y_ = (y116.set ((ji49) : Int).toNat (rd x0_2 x17_2)) := ⟨_, rfl⟩; replace H : (F84.l3 k2 y117 x14_1 ji49) = some r := by first | (rw [hy117]; with_reducible exact H) | (have H2_ := (Option.bind_some _ _).symm.trans H; rw [hy117]; with_reducible exact H2_) | (have H2_ := (Option.bind_some _ _).symm.trans H; with_reducible exact H2_) | with_reducible exact H | (rw [hy117]; exact H) | exact H
               have Ny117 := Aside0.mk hy117; clear hy117; have H' := Aside0.mk H; clear H; (try go_wp2); replace HO_0 := Aside0.mk (Kd.R_drew HO_0.out); replace HI4 := Aside0.mk (IsS37.drew HI4.out); replace HK := Aside0.mk (Kept.drew HK.out); replace HB := Aside0.mk (below_drew1 HB.out); obtain ⟨Ao57, co57, eo57⟩ := Kd.R_slice HO_0.out; (first | subst eo57 | (injection eo57 with f1_ f2_ f3_; have f4_ := f1_.symm; have f5_ := f3_.symm; clear f1_ f2_ f3_; subst f4_; subst f5_)); have p114 : 0 ≤ ((ji49) : Int) := of_decide_eq_true pbb2_4; have q114 : (ji49) < (x0_2.length : Int) := of_decide_eq_true pbb2_4; obtain ⟨ad114, e114, hx114_0⟩ := Kd.at_int (Kd.R_reads' HO_0.out).2.2 (ji49) p114 q114
               cases e114
               replace p114 := eq_true p114; replace q114 := eq_true q114; have p115 : 0 ≤ (x17_2 : Int) := of_decide_eq_true pbb2_4; have q115 : x17_2 < (x0_2.length : Int) := of_decide_eq_true pbb2_4; obtain ⟨ad115, e115, hx115_0⟩ := Kd.at_int (Kd.R_reads' HO_0.out).2.2 x17_2 p115 q115; obtain rfl : ad114 = ad115 := (by injection e115); replace p115 := eq_true p115; replace q115 := eq_true q115; have p54 : 0 ≤ (x17_2 : Int) := of_decide_eq_true pbb2_4; have q54 : (x17_2 : Int) < ((x0_2.length : Int) : Int) := of_decide_eq_true pbb2_4; obtain ⟨go54, co54, eo54, gb54, gl54, cl54, HG54⟩ := Kd.R_form HO_0.out (by omega); (first | cases eo54 | (injection eo54 with ea_ en_ ec_; (first | subst ea_ | (injection ea_ with ea_; subst ea_)); subst ec_; clear en_)); have GB54 := Aside0.mk gb54; have GG54 := Aside0.mk HG54; clear gb54 gl54 HG54; have HMgo54 := Aside0.mk (show (P0_ go54 ∨ w.heap.size ≤ go54) from (HO_0.out.1 _ rfl)); (first | simp only [add_plain] at hx114_0 | skip); (first | simp only [add_plain] at hx115_0 | skip); obtain ⟨hx54_0, hf54_0⟩ := Kd.R_celln 0 HO_0.out (x17_2 : Int) p54 q54; replace p54 := eq_true p54; replace q54 := eq_true q54; have HN4_go54 := Aside0.mk (show g ≠ go54 from by have h_ := IsS37.own_ne HI4.out HO_0.out (by decide); intro e_; exact h_ (by rw [e_]; rfl)); have HP58 := Kd.R_putn HO_0.out (x17_2 : Int) (rd x0_2 (ji49)); rw [← Ny116.out] at HP58; have HQ58 := Aside0.mk HP58; clear HP58; have p55 : 0 ≤ ((ji49) : Int) := of_decide_eq_true pbb2_4; have q55 : ((ji49) : Int) < ((x0_2.length : Int) : Int) := of_decide_eq_true pbb2_4; obtain ⟨hx55_0, hf55_0⟩ := Kd.R_celln 0 HQ58.out ((ji49) : Int) p55 q55; replace p55 := eq_true p55; replace q55 := eq_true q55; have HN4_go54 := Aside0.mk (show g ≠ go54 from by have h_ := IsS37.own_ne HI4.out HO_0.out (by decide); intro e_; exact h_ (by rw [e_]; rfl)); have HP59 := Kd.R_putn HQ58.out ((ji49) : Int) (rd x0_2 x17_2); rw [← Ny117.out] at HP59; have HQ59 := Aside0.mk HP59; clear HP59; refine start_ (n := 18) (S := fun w' => w'.cell? ⟨go54, ((ji49)).toNat, none⟩ = some (.int .i64 (rd x0_2 (ji49))) ∧ w'.cell? ⟨go54, (x17_2).toNat, none⟩ = some (.int .i64 (rd x0_2 x17_2))) (ds := [15, 17]) (bq 18 0) (by kernel_rfl) rfl rfl ⟨hx114_0, hx115_0⟩ (fun hHeld => ?_); refine with_tabW F84.tab23 F84.bits23 (fun HT_ HW_ => ?_); generalize wr.drew = w56 at HO_0 HI4 HK HB GG54 HQ58 HQ59 hf54_0 hf55_0 hx114_0 hx115_0 hx54_0 hx55_0 hHeld ⊢; refine pv_ 0 113 (bq 18 1) HT_ ?_; refine pv_ 1 114 (bq 18 3) HT_ ?_; refine pv_ 2 115 (bq 18 7) HT_ ?_; refine pv_ 3 116 (bq 18 15) HT_ ?_; refine pv_ 4 117 (bq 18 31) HT_ ?_; refine pv_ 5 118 (bq 18 63) HT_ ?_; refine pv_ 6 119 (bq 18 127) HT_ ?_; refine pv_ 7 120 (bq 18 255) HT_ ?_; refine pv_ 8 121 (bq 18 511) HT_ ?_; refine pv_ 10 123 (bq 18 1535) HT_ ?_; refine pv_ 11 124 (bq 18 3583) HT_ ?_; refine pv_ 12 125 (bq 18 7679) HT_ ?_; refine take_ (i := 9) (N := some 122) (v := ?_) (a' := ?_) (bq 18 8191) rfl rfl (take_ofW HT_.out HW_.out (by kernel_rfl)) (fun _ _ _ h => h) (Or.inl ⟨by rfl, ?_⟩) hHeld ?_ ?_; rotate_left
               ·rintro w' ⟨s0, s1⟩; go_simp; (with_reducible rfl)
               rotate_left
               ·exact cbb2_0
               refine take_ (i := 13) (N := some 126) (v := ?_) (a' := ?_) (bq 18 16383) rfl rfl (take_ofW HT_.out HW_.out (by kernel_rfl)) (fun _ _ _ h => h) (Or.inl ⟨by rfl, ?_⟩) hHeld ?_ ?_; rotate_left
               ·rintro w' ⟨s0, s1⟩; go_simp; (with_reducible rfl)
               rotate_left
               ·exact cbb2_0
               refine pv_ 14 127 (bq 18 32767) HT_ ?_; refine last_ (i := 15) (N := none) (bq 18 65535) rfl rfl (one_of HT_.out (by kernel_rfl)) (by decide) (fun K hK => ?_); refine skip_ (w1 := ?_) (by rfl) rfl ?_ ?_; rotate_left
               ·go_simp
                rfl
               refine hK.out _ _ ?_; clear hK K; refine pv_ 16 128 (bq 18 131071) HT_ ?_; refine last_ (i := 17) (N := none) (bq 18 262143) rfl rfl (one_of HT_.out (by kernel_rfl)) (by decide) (fun K hK => ?_); refine skip_ (w1 := ?_) (by rfl) rfl ?_ ?_; rotate_left
               ·go_simp
                rfl
               refine hK.out _ _ ?_; clear hK K; refine done_ (done_of HT_.out (by kernel_rfl)) ?_; (try go_wp2)
               go_roundg k2
               case measure => have := HK1.out; have := HK2.out; omega
               case rel => exact ⟨(y117), (ji49), (by first | rfl | (simp; done) | (simp only [← hji49] <;> (first | rfl | simp)) | (simp [*]; done)), H', ⟨by have := HK1.out; have := HK2.out; omega⟩, ⟨by (with_reducible repeat (first | apply Kd.R_alloc | apply Kd.R_drewN | apply Kd.R_drew)); exact HQ59.out⟩, ⟨by repeat (first | (with_reducible first | exact HI4.out | apply IsS37.alloc | apply IsS37.drewN | apply IsS37.drew | refine IsS37.far ?_ HN4_go54.out _ | refine IsS37.far ?_ HN4_go54.out _) | exact HI4.out)⟩, ⟨by repeat (first | (with_reducible first | exact HK.out | apply Kept.alloc | apply Kept.drewN | apply Kept.drew | refine Kept.setCell ?_ (Or.imp_left Or.inl HMgo54.out) _ | refine Kept.setCell ?_ (Or.imp_left Or.inl HMgo54.out) _ | refine Kept.setCell ?_ (.inl (.inr rfl)) _) | exact HK.out)⟩, ⟨by repeat (first | (with_reducible first | exact HB.out | apply below_alloc | apply pw_below_drewN | apply below_drew1 | refine below_set ?_ GB54.out | refine below_set ?_ GB54.out | refine below_set ?_ (IsS37.ge HI4.out)) | exact HB.out)⟩⟩
              ·rw [if_neg c53] at H; exact absurd H (by simp)
             ·rw [if_neg c52] at H; exact absurd H (by simp)
            ·rw [if_neg c51] at H; exact absurd H (by simp)
           ·rw [if_neg c50] at H; exact absurd H (by simp)
          ·rw [if_neg c48] at H; have c48b0 : decide (x14_1 < x17_2) = false := decide_eq_false c48; clear c48; obtain rfl := Option.some.inj H
           go_wp2
           first | go_end0 | ((try simp only [Exit.inBlock, Exit.then]); refine bodyPost_ret (results_none rfl _ _ _) rfl ?_)
           exact ⟨pbb2_5, pbb5_9, pbb5_7, pbb5_10, pbb5_5⟩
  ·rw [if_neg c33] at H; have c33b0 := nF_ c33; have c33b1 := nT_ c33; have HC60 := Aside0.mk H; clear H; go_enter Tryd.func84, Tryd.ntmps84
   go_upto_if 140 with (fail)
   go_cut [20, 21] (fun v20 v21 wc => ∃ (kq : Nat) (x20_59 : Int) (x21_59 : Int), v20 = .int .i64 x20_59 ∧ v21 = .int .i64 x21_59 ∧ Aside0 (F84.j4 kq l0 a1 a2 a3 (wrap64 ((IntKind.u64.wrap (wrap64 (a1 + a3))) / 2)) (wrap64 ((wrap64 ((IntKind.u64.wrap (wrap64 (a1 + a3))) / 2)) + a2)) x20_59 x21_59 s4_0 = some r) ∧ Aside0 (kq ≤ k) ∧ Aside0 (Kd.R (Kd.int .i64) 3 wc w0.heap.size (fun k_ => (P0_ k_ ∨ w.heap.size ≤ k_)) u9000_ l0) ∧ Aside0 (IsS37 w0 wc g s4_0) ∧ Aside0 (Kept w wc (fun k_ => (P0_ k_) ∨ k_ = g)) ∧ Aside0 (Below w0.heap.size w0 wc))
   case first =>
    have H := HC60.out; clear HC60
    by_cases c61 : a2 > (wrap64 ((IntKind.u64.wrap (wrap64 (a1 + a3))) / 2))
    ·rw [if_pos c61] at H; have c61b0 : decide ((wrap64 ((IntKind.u64.wrap (wrap64 (a1 + a3))) / 2)) < a2) = true := decide_eq_true c61; clear c61; (first | rw [c61b0] | (simp only [i64_w, i32_w]; rw [c61b0]) | skip); have H' := Aside0.mk H; clear H
     go_wp2
     go_meet
     case rel => exact ⟨_, (wrap64 ((wrap64 ((wrap64 ((IntKind.u64.wrap (wrap64 (a1 + a3))) / 2)) + a2)) - a3)), (wrap64 ((IntKind.u64.wrap (wrap64 (a1 + a3))) / 2)), pbb2_0, pbb2_0, H', ⟨by first | omega | exact Nat.le_refl _⟩, ⟨pbb5_3⟩, ⟨pbb5_9⟩, ⟨pbb5_5⟩, ⟨pbb5_10⟩⟩
    ·rw [if_neg c61] at H; have c61b0 : decide ((wrap64 ((IntKind.u64.wrap (wrap64 (a1 + a3))) / 2)) < a2) = false := decide_eq_false c61; clear c61; (first | rw [c61b0] | (simp only [i64_w, i32_w]; rw [c61b0]) | skip); have H' := Aside0.mk H; clear H
     go_wp2
     go_meet
     case rel => exact ⟨_, (a1), (a2), pbb2_0, pbb2_0, H', ⟨by first | omega | exact Nat.le_refl _⟩, ⟨pbb5_3⟩, ⟨pbb5_9⟩, ⟨pbb5_5⟩, ⟨pbb5_10⟩⟩
   case rest =>
    as_aux_lemma =>
     clear HC60; (try clear hf5); (try clear hf27); (try clear hf28); (try clear hf54); (try clear hf55); obtain ⟨kq, x20_59, x21_59, rfl, rfl, HA, HJ59, HO_0, HI4, HK, HB⟩ := hcut
     cases kq with
     | zero => exact absurd HA.out (by simp [F84.j4])
     | succ kj59 =>
      have H := HA.out; clear HA; simp only [F84.j4] at H; have H' := Aside0.mk H; clear H
      go_wp2
      go_loopg [20, 21] kj59 (fun kq v20 v21 w' => ∃ (x20_2 : Int) (x21_2 : Int), v20 = .int .i64 x20_2 ∧ v21 = .int .i64 x21_2 ∧ Aside0 (F84.l4 kq l0 a1 a2 a3 (wrap64 ((IntKind.u64.wrap (wrap64 (a1 + a3))) / 2)) (wrap64 ((wrap64 ((IntKind.u64.wrap (wrap64 (a1 + a3))) / 2)) + a2)) x20_2 x21_2 (wrap64 ((wrap64 ((wrap64 ((IntKind.u64.wrap (wrap64 (a1 + a3))) / 2)) + a2)) - 1)) s4_0 = some r) ∧ Aside0 (kq ≤ kj59) ∧ Aside0 (Kd.R (Kd.int .i64) 3 w' w0.heap.size (fun k_ => (P0_ k_ ∨ w.heap.size ≤ k_)) u9000_ l0) ∧ Aside0 (IsS37 w0 w' g s4_0) ∧ Aside0 (Kept w w' (fun k_ => (P0_ k_) ∨ k_ = g)) ∧ Aside0 (Below w0.heap.size w0 w'))
      case atStart => exact ⟨(x20_59), (x21_59), pbb2_0, pbb2_0, H', ⟨Nat.le_refl _⟩, ⟨pbb5_7⟩, ⟨pbb5_9⟩, ⟨pbb5_5⟩, ⟨pbb5_10⟩⟩
      case round =>
       as_aux_lemma =>
        clear H'; (try clear hf5); (try clear hf27); (try clear hf28); (try clear hf54); (try clear hf55); obtain ⟨x20_2, x21_2, rfl, rfl, HA, HK2, HO_0, HI4, HK, HB⟩ := hrel
        cases gk with
        | zero => exact absurd HA.out (by simp [F84.l4])
        | succ k2 =>
         have H := HA.out; clear HA; simp only [F84.l4] at H
         by_cases c62 : x20_2 < x21_2
         ·rw [if_pos c62] at H; have c62b0 := decide_eq_true c62; clear c62; obtain ⟨ji63, hji63⟩ : ∃ j_ : Int, (wrap64 ((wrap64 ((wrap64 ((wrap64 ((IntKind.u64.wrap (wrap64 (a1 + a3))) / 2)) + a2)) - 1)) - (wrap64 ((IntKind.u64.wrap (wrap64 (x20_2 + x21_2))) / 2)))) = j_ := ⟨_, rfl⟩; (first | rw [hji63] at H | simp only [hji63] at H); have hji63w : (IntKind.i64.wrap ((wrap64 ((wrap64 ((wrap64 ((IntKind.u64.wrap (wrap64 (a1 + a3))) / 2)) + a2)) - 1)) - (wrap64 ((IntKind.u64.wrap (wrap64 (x20_2 + x21_2))) / 2)))) = ji63 := (i64_w _).trans hji63
          by_cases c64 : 0 ≤ (ji63)
          ·rw [if_pos c64] at H; have c64b0 := decide_eq_true c64; clear c64
           by_cases c65 : (ji63) < (l0.length : Int)
           ·rw [if_pos c65] at H; have c65b0 := decide_eq_true c65; clear c65; obtain ⟨ji66, hji66⟩ : ∃ j_ : Int, (wrap64 ((IntKind.u64.wrap (wrap64 (x20_2 + x21_2))) / 2)) = j_ := ⟨_, rfl⟩; have hji63_ji66 : (wrap64 ((wrap64 ((wrap64 ((wrap64 ((IntKind.u64.wrap (wrap64 (a1 + a3))) / 2)) + a2)) - 1)) - ji66)) = ji63 := by rw [← hji66]; exact hji63
            (first | rw [hji66] at H | simp only [hji66] at H); have hji66w : (IntKind.i64.wrap ((IntKind.u64.wrap (wrap64 (x20_2 + x21_2))) / 2)) = ji66 := (i64_w _).trans hji66
            by_cases c67 : 0 ≤ (ji66)
            ·rw [if_pos c67] at H; have c67b0 := decide_eq_true c67; clear c67
             by_cases c68 : (ji66) < (l0.length : Int)
             ·rw [if_pos c68] at H; have c68b0 := decide_eq_true c68; clear c68; obtain ⟨t120, A690, H⟩ := bnd H; have A69 := Aside0.mk A690; clear A690
              by_cases c70 : t120 < 0
              ·rw [if_pos c70] at H; have c70b0 := decide_eq_true c70; clear c70; have H' := Aside0.mk H; clear H; (try go_wp2); replace HO_0 := Aside0.mk (Kd.R_drew HO_0.out); replace HI4 := Aside0.mk (IsS37.drew HI4.out); replace HK := Aside0.mk (Kept.drew HK.out); replace HB := Aside0.mk (below_drew1 HB.out); obtain ⟨Ao72, co72, eo72⟩ := Kd.R_slice HO_0.out; (first | subst eo72 | (injection eo72 with f1_ f2_ f3_; have f4_ := f1_.symm; have f5_ := f3_.symm; clear f1_ f2_ f3_; subst f4_; subst f5_)); have p118 : 0 ≤ ((ji63) : Int) := of_decide_eq_true pbb2_4; have q118 : (ji63) < (l0.length : Int) := of_decide_eq_true pbb2_4; obtain ⟨ad118, e118, hx118_0⟩ := Kd.at_int (Kd.R_reads' HO_0.out).2.2 (ji63) p118 q118
               cases e118
               replace p118 := eq_true p118; replace q118 := eq_true q118; have p119 : 0 ≤ ((ji66) : Int) := of_decide_eq_true pbb2_4; have q119 : (ji66) < (l0.length : Int) := of_decide_eq_true pbb2_4; obtain ⟨ad119, e119, hx119_0⟩ := Kd.at_int (Kd.R_reads' HO_0.out).2.2 (ji66) p119 q119; obtain rfl : ad118 = ad119 := (by injection e119); replace p119 := eq_true p119; replace q119 := eq_true q119; refine start_ (n := 14) (S := fun w' => w'.cell? (ad118.add ((ji63)).toNat) = some (.int .i64 (rd l0 (ji63))) ∧ w'.cell? (ad118.add ((ji66)).toNat) = some (.int .i64 (rd l0 (ji66)))) (ds := []) (bq 14 0) (by kernel_rfl) rfl rfl ⟨hx118_0, hx119_0⟩ (fun hHeld => ?_); refine with_tabW F84.tab35 F84.bits35 (fun HT_ HW_ => ?_); generalize wr.drew = w71 at HO_0 HI4 HK HB hx118_0 hx119_0 hHeld ⊢; refine pv_ 0 158 (bq 14 1) HT_ ?_; refine pv_ 1 159 (bq 14 3) HT_ ?_; refine pv_ 2 160 (bq 14 7) HT_ ?_; refine pv_ 3 161 (bq 14 15) HT_ ?_; refine pv_ 4 162 (bq 14 31) HT_ ?_; refine pv_ 5 163 (bq 14 63) HT_ ?_; refine pv_ 7 165 (bq 14 191) HT_ ?_; refine pv_ 8 166 (bq 14 447) HT_ ?_; refine pv_ 9 167 (bq 14 959) HT_ ?_; refine take_ (i := 6) (N := some 164) (v := ?_) (a' := ?_) (bq 14 1023) rfl rfl (take_ofW HT_.out HW_.out (by kernel_rfl)) (fun _ _ _ h => h) (Or.inl ⟨by rfl, ?_⟩) hHeld ?_ ?_; rotate_left
               ·rintro w' ⟨s0, s1⟩; go_simp; (with_reducible rfl)
               rotate_left
               ·exact cbb2_0
               refine take_ (i := 10) (N := some 168) (v := ?_) (a' := ?_) (bq 14 2047) rfl rfl (take_ofW HT_.out HW_.out (by kernel_rfl)) (fun _ _ _ h => h) (Or.inl ⟨by rfl, ?_⟩) hHeld ?_ ?_; rotate_left
               ·rintro w' ⟨s0, s1⟩; go_simp; (with_reducible rfl)
               rotate_left
               ·exact cbb2_0
               refine one_ (i := 11) (N := some 169) (bq 14 4095) rfl rfl (one_of HT_.out (by kernel_rfl)) (by decide) (fun K hK => ?_); refine goesF_ Tryd.func81 (by kernel_rfl) rfl #[.int .i64 (rd l0 (ji63)), .int .i64 (rd l0 (ji66)), .pointer (some ⟨g, 0, none⟩)] (by rfl) rfl rfl (by rfl) (by (try simp only [List.map_toArray, List.map_cons, List.map_nil]); first | done | (simp only [hji63, hji66]; rfl) | rfl | (simp only [List.length_drop, List.length_take]; rfl)) ?_; (with_reducible refine (F81.calls (rd l0 (ji63)) (rd l0 (ji66)) g s4_0 t120 w0 _ ?side1 ?side2 A69.out).mono ?_); (case side1 => repeat (first | (with_reducible first | exact HI4.out | apply IsS37.alloc | apply IsS37.drewN | apply IsS37.drew) | exact HI4.out)); (case side2 => repeat (first | (with_reducible first | exact HB.out | apply below_alloc | apply pw_below_drewN | apply below_drew1 | refine below_set ?_ (IsS37.ge HI4.out)) | exact HB.out)); rintro e w73 ⟨rfl, hi, hb, hk⟩; have HS0_ := keep_cell hk (hHeld.1) pbb6_0; have HS1_ := keep_cell hk (hHeld.2) pbb6_0; refine ⟨_, rfl, ?_⟩; replace HO_0 := Aside0.mk (Kd.R_mono (Kd.R_keep (IsS37.apart (show IsS37 w0 _ g s4_0 from by repeat (first | (with_reducible first | exact HI4.out | apply IsS37.alloc | apply IsS37.drewN | apply IsS37.drew) | exact HI4.out)) pbb5_7 (by decide)) hk (fun _ h => h.2)) (fun _ h => h.1)); replace HK := Aside0.mk (Kept.of_keep (S := (fun k_ => (P0_ k_) ∨ k_ = g)) pbb5_5 hk (.inl (.inr rfl))); replace HB := Aside0.mk (hb); replace HI4 := Aside0.mk (hi); (try clear hb); (try clear hb2); (try clear hk); (try clear hi); refine hK.out _ _ ⟨HS0_, HS1_⟩ (fun hHeld => ?_); clear hK K; refine norm_ (a' := ?_) ?_ ?_; rotate_left
               ·show Act.put _ (some 169) _ = _; simp only [Act.put, List.setIfInBounds_toArray, List.set_cons_zero, List.set_cons_succ, i64_w, i32_w]
                rfl
               refine pv_ 12 170 (bq 14 8191) HT_ ?_; refine pv_ 13 171 (bq 14 16383) HT_ ?_; refine done_ (done_of HT_.out (by kernel_rfl)) ?_; (try go_wp2)
               go_roundg k2
               case measure => have := HJ59.out; have := HK2.out; omega
               case rel => exact ⟨(x20_2), (ji66), pbb2_0, (by first | rfl | (simp; done) | (simp only [← hji66] <;> (first | rfl | simp)) | (simp [*]; done)), H', ⟨by have := HJ59.out; have := HK2.out; omega⟩, ⟨pbb5_7⟩, ⟨pbb5_9⟩, ⟨pbb5_5⟩, ⟨pbb5_10⟩⟩
              ·rw [if_neg c70] at H; have c70b0 := decide_eq_false c70; clear c70; have H' := Aside0.mk H; clear H; (try go_wp2); replace HO_0 := Aside0.mk (Kd.R_drew HO_0.out); replace HI4 := Aside0.mk (IsS37.drew HI4.out); replace HK := Aside0.mk (Kept.drew HK.out); replace HB := Aside0.mk (below_drew1 HB.out); obtain ⟨Ao75, co75, eo75⟩ := Kd.R_slice HO_0.out; (first | subst eo75 | (injection eo75 with f1_ f2_ f3_; have f4_ := f1_.symm; have f5_ := f3_.symm; clear f1_ f2_ f3_; subst f4_; subst f5_)); have p118 : 0 ≤ ((ji63) : Int) := of_decide_eq_true pbb2_4; have q118 : (ji63) < (l0.length : Int) := of_decide_eq_true pbb2_4; obtain ⟨ad118, e118, hx118_0⟩ := Kd.at_int (Kd.R_reads' HO_0.out).2.2 (ji63) p118 q118
               cases e118
               replace p118 := eq_true p118; replace q118 := eq_true q118; have p119 : 0 ≤ ((ji66) : Int) := of_decide_eq_true pbb2_4; have q119 : (ji66) < (l0.length : Int) := of_decide_eq_true pbb2_4; obtain ⟨ad119, e119, hx119_0⟩ := Kd.at_int (Kd.R_reads' HO_0.out).2.2 (ji66) p119 q119; obtain rfl : ad118 = ad119 := (by injection e119); replace p119 := eq_true p119; replace q119 := eq_true q119; refine start_ (n := 14) (S := fun w' => w'.cell? (ad118.add ((ji63)).toNat) = some (.int .i64 (rd l0 (ji63))) ∧ w'.cell? (ad118.add ((ji66)).toNat) = some (.int .i64 (rd l0 (ji66)))) (ds := []) (bq 14 0) (by kernel_rfl) rfl rfl ⟨hx118_0, hx119_0⟩ (fun hHeld => ?_); refine with_tabW F84.tab35 F84.bits35 (fun HT_ HW_ => ?_); generalize wr.drew = w74 at HO_0 HI4 HK HB hx118_0 hx119_0 hHeld ⊢; refine pv_ 0 158 (bq 14 1) HT_ ?_; refine pv_ 1 159 (bq 14 3) HT_ ?_; refine pv_ 2 160 (bq 14 7) HT_ ?_; refine pv_ 3 161 (bq 14 15) HT_ ?_; refine pv_ 4 162 (bq 14 31) HT_ ?_; refine pv_ 5 163 (bq 14 63) HT_ ?_; refine pv_ 7 165 (bq 14 191) HT_ ?_; refine pv_ 8 166 (bq 14 447) HT_ ?_; refine pv_ 9 167 (bq 14 959) HT_ ?_; refine take_ (i := 6) (N := some 164) (v := ?_) (a' := ?_) (bq 14 1023) rfl rfl (take_ofW HT_.out HW_.out (by kernel_rfl)) (fun _ _ _ h => h) (Or.inl ⟨by rfl, ?_⟩) hHeld ?_ ?_; rotate_left
               ·rintro w' ⟨s0, s1⟩; go_simp; (with_reducible rfl)
               rotate_left
               ·exact cbb2_0
               refine take_ (i := 10) (N := some 168) (v := ?_) (a' := ?_) (bq 14 2047) rfl rfl (take_ofW HT_.out HW_.out (by kernel_rfl)) (fun _ _ _ h => h) (Or.inl ⟨by rfl, ?_⟩) hHeld ?_ ?_; rotate_left
               ·rintro w' ⟨s0, s1⟩; go_simp; (with_reducible rfl)
               rotate_left
               ·exact cbb2_0
               refine one_ (i := 11) (N := some 169) (bq 14 4095) rfl rfl (one_of HT_.out (by kernel_rfl)) (by decide) (fun K hK => ?_); refine goesF_ Tryd.func81 (by kernel_rfl) rfl #[.int .i64 (rd l0 (ji63)), .int .i64 (rd l0 (ji66)), .pointer (some ⟨g, 0, none⟩)] (by rfl) rfl rfl (by rfl) (by (try simp only [List.map_toArray, List.map_cons, List.map_nil]); first | done | (simp only [hji63, hji66]; rfl) | rfl | (simp only [List.length_drop, List.length_take]; rfl)) ?_; (with_reducible refine (F81.calls (rd l0 (ji63)) (rd l0 (ji66)) g s4_0 t120 w0 _ ?side1 ?side2 A69.out).mono ?_); (case side1 => repeat (first | (with_reducible first | exact HI4.out | apply IsS37.alloc | apply IsS37.drewN | apply IsS37.drew) | exact HI4.out)); (case side2 => repeat (first | (with_reducible first | exact HB.out | apply below_alloc | apply pw_below_drewN | apply below_drew1 | refine below_set ?_ (IsS37.ge HI4.out)) | exact HB.out)); rintro e w76 ⟨rfl, hi, hb, hk⟩; have HS0_ := keep_cell hk (hHeld.1) pbb6_0; have HS1_ := keep_cell hk (hHeld.2) pbb6_0; refine ⟨_, rfl, ?_⟩; replace HO_0 := Aside0.mk (Kd.R_mono (Kd.R_keep (IsS37.apart (show IsS37 w0 _ g s4_0 from by repeat (first | (with_reducible first | exact HI4.out | apply IsS37.alloc | apply IsS37.drewN | apply IsS37.drew) | exact HI4.out)) pbb5_7 (by decide)) hk (fun _ h => h.2)) (fun _ h => h.1)); replace HK := Aside0.mk (Kept.of_keep (S := (fun k_ => (P0_ k_) ∨ k_ = g)) pbb5_5 hk (.inl (.inr rfl))); replace HB := Aside0.mk (hb); replace HI4 := Aside0.mk (hi); (try clear hb); (try clear hb2); (try clear hk); (try clear hi); refine hK.out _ _ ⟨HS0_, HS1_⟩ (fun hHeld => ?_); clear hK K; refine norm_ (a' := ?_) ?_ ?_; rotate_left
               ·show Act.put _ (some 169) _ = _; simp only [Act.put, List.setIfInBounds_toArray, List.set_cons_zero, List.set_cons_succ, i64_w, i32_w]
                rfl
               refine pv_ 12 170 (bq 14 8191) HT_ ?_; refine pv_ 13 171 (bq 14 16383) HT_ ?_; refine done_ (done_of HT_.out (by kernel_rfl)) ?_; (try go_wp2)
               go_roundg k2
               case measure => have := HJ59.out; have := HK2.out; omega
               case rel => exact ⟨(wrap64 ((ji66) + 1)), (x21_2), (by first | rfl | (simp; done) | (simp only [← hji66] <;> (first | rfl | simp)) | (simp [*]; done)), pbb2_0, H', ⟨by have := HJ59.out; have := HK2.out; omega⟩, ⟨pbb5_7⟩, ⟨pbb5_9⟩, ⟨pbb5_5⟩, ⟨pbb5_10⟩⟩
             ·rw [if_neg c68] at H; exact absurd H (by simp)
            ·rw [if_neg c67] at H; exact absurd H (by simp)
           ·rw [if_neg c65] at H; exact absurd H (by simp)
          ·rw [if_neg c64] at H; exact absurd H (by simp)
         ·rw [if_neg c62] at H; have c62b0 := decide_eq_false c62; clear c62; have HC77 := Aside0.mk H; clear H
          go_upto_region 39 with (fail)
          go_cut [185] (fun v185 wc => ∃ (kq : Nat) (x185_76 : Bool), v185 = .bool x185_76 ∧ Aside0 (F84.j6 kq l0 a1 a2 a3 (wrap64 ((IntKind.u64.wrap (wrap64 (a1 + a3))) / 2)) x20_2 (wrap64 ((wrap64 ((wrap64 ((IntKind.u64.wrap (wrap64 (a1 + a3))) / 2)) + a2)) - x20_2)) x185_76 s4_0 = some r) ∧ Aside0 (kq ≤ k2) ∧ Aside0 (Kd.R (Kd.int .i64) 3 wc w0.heap.size (fun k_ => (P0_ k_ ∨ w.heap.size ≤ k_)) u9000_ l0) ∧ Aside0 (IsS37 w0 wc g s4_0) ∧ Aside0 (Kept w wc (fun k_ => (P0_ k_) ∨ k_ = g)) ∧ Aside0 (Below w0.heap.size w0 wc))
          case first =>
           have H := HC77.out; clear HC77
           by_cases c78 : x20_2 < a2
           ·rw [if_pos c78] at H; have c78b0 := decide_eq_true c78; clear c78; (first | rw [c78b0] | (simp only [i64_w, i32_w]; rw [c78b0]) | skip); have H' := Aside0.mk H; clear H
            go_wp2
            go_meet
            case rel => exact ⟨_, (decide (a2 < (wrap64 ((wrap64 ((wrap64 ((IntKind.u64.wrap (wrap64 (a1 + a3))) / 2)) + a2)) - x20_2)))), pbb2_0, H', ⟨by have := HJ59.out; have := HK2.out; first | omega | exact Nat.le_refl _⟩, ⟨pbb5_7⟩, ⟨pbb5_9⟩, ⟨pbb5_5⟩, ⟨pbb5_10⟩⟩
           ·rw [if_neg c78] at H; have c78b0 := decide_eq_false c78; clear c78; (first | rw [c78b0] | (simp only [i64_w, i32_w]; rw [c78b0]) | skip); have H' := Aside0.mk H; clear H
            go_wp2
            go_meet
            case rel => exact ⟨_, (false), pbb2_0, H', ⟨by have := HJ59.out; have := HK2.out; first | omega | exact Nat.le_refl _⟩, ⟨pbb5_7⟩, ⟨pbb5_9⟩, ⟨pbb5_5⟩, ⟨pbb5_10⟩⟩
          case rest =>
           as_aux_lemma =>
            clear HC77; (try clear hf5); (try clear hf27); (try clear hf28); (try clear hf54); (try clear hf55); obtain ⟨kq, x185_76, rfl, HA, HJ76, HO_0, HI4, HK, HB⟩ := hcut
            cases kq with
            | zero => exact absurd HA.out (by simp [F84.j6])
            | succ kj76 =>
             have H := HA.out; clear HA; simp only [F84.j6] at H; have HC79 := Aside0.mk H; clear H
             go_upto_if 185 with (fail)
             go_cut [] (fun wc => ∃ (kq : Nat) (x0_78 : List Int), Aside0 (F84.j7 kq x0_78 a1 a3 (wrap64 ((IntKind.u64.wrap (wrap64 (a1 + a3))) / 2)) x20_2 (wrap64 ((wrap64 ((wrap64 ((IntKind.u64.wrap (wrap64 (a1 + a3))) / 2)) + a2)) - x20_2)) s4_0 = some r) ∧ Aside0 (kq ≤ kj76) ∧ Aside0 (Kd.R (Kd.int .i64) 3 wc w0.heap.size (fun k_ => (P0_ k_ ∨ w.heap.size ≤ k_)) u9000_ x0_78) ∧ Aside0 (IsS37 w0 wc g s4_0) ∧ Aside0 (Kept w wc (fun k_ => (P0_ k_) ∨ k_ = g)) ∧ Aside0 (Below w0.heap.size w0 wc))
             case first =>
              have H := HC79.out; clear HC79
              by_cases c80 : x185_76 = true
              ·subst c80; rw [if_pos rfl] at H; obtain ⟨t121, A810, H⟩ := bnd H; have A81 := Aside0.mk A810; clear A810; have H' := Aside0.mk H; clear H; obtain ⟨Ao82, co82, eo82⟩ := Kd.R_slice HO_0.out; subst eo82
               go_wp2_with (first | ((with_reducible refine gate_callee (f := 85) rfl ?_); refine goesL_ (some 191) rfl rfl Tryd.func85 (by kernel_rfl) rfl #[.slice Ao82 l0.length co82, .int .i64 x20_2, .int .i64 a2, .int .i64 (wrap64 ((wrap64 ((wrap64 ((IntKind.u64.wrap (wrap64 (a1 + a3))) / 2)) + a2)) - x20_2)), .func (.func 81) #[] #[.pointer (some ⟨g, 0, none⟩)]] rfl pbb2_2 ?_; (with_reducible refine (F85.calls kj76 (fun k_ => some k_ = (.slice Ao82 l0.length co82 : Value).ownBlock) (.slice Ao82 l0.length co82) l0 x20_2 a2 (wrap64 ((wrap64 ((wrap64 ((IntKind.u64.wrap (wrap64 (a1 + a3))) / 2)) + a2)) - x20_2)) g s4_0 t121 w0 _ ?side1 ?side2 ?side3 A81.out).mono ?_); (case side1 => repeat (first | (with_reducible first | exact HI4.out | apply IsS37.alloc | apply IsS37.drewN | apply IsS37.drew) | exact HI4.out)); (case side2 => repeat (first | (with_reducible first | exact HB.out | apply below_alloc | apply pw_below_drewN | apply below_drew1 | refine below_set ?_ (IsS37.ge HI4.out)) | exact HB.out)); (case side3 => exact Kd.R_tight rfl HO_0.out); rintro e w83 ⟨rfl, hi, hy0, hb, hkp⟩; refine ⟨_, rfl, ?_⟩; replace HI4 := Aside0.mk (hi); replace HK := Aside0.mk (Kept.then_ (S := (fun k_ => (P0_ k_) ∨ k_ = g)) pbb5_5 hkp (fun k_ hs_ => Or.elim hs_ (fun hs_ => (fun e_ => Or.imp_left Or.inl ((HO_0.out.1 k_ e_.symm))) hs_) (fun e_ => .inl (.inr e_)))); replace HO_0 := Aside0.mk (Kd.R_reok rfl hy0 (fun k_ e_ => HO_0.out.1 k_ e_)); replace HB := Aside0.mk (hb); (try clear hb); (try clear hkp); (try clear hy0)))
               go_meet
               case rel => exact ⟨_, (t121), H', ⟨by have := HJ59.out; have := HK2.out; have := HJ76.out; first | omega | exact Nat.le_refl _⟩, ⟨pbb5_7⟩, ⟨pbb5_9⟩, ⟨pbb5_5⟩, ⟨pbb5_10⟩⟩
              ·replace c80 := Bool.eq_false_iff.mpr c80; subst c80; rw [if_neg (show ¬ (false = true) by decide)] at H; have H' := Aside0.mk H; clear H
               go_wp2
               go_meet
               case rel => exact ⟨_, (l0), H', ⟨by have := HJ59.out; have := HK2.out; have := HJ76.out; first | omega | exact Nat.le_refl _⟩, ⟨pbb5_7⟩, ⟨pbb5_9⟩, ⟨pbb5_5⟩, ⟨pbb5_10⟩⟩
             case rest =>
              as_aux_lemma =>
               clear HC79; (try clear hf5); (try clear hf27); (try clear hf28); (try clear hf54); (try clear hf55); obtain ⟨kq, x0_78, HA, HJ78, HO_0, HI4, HK, HB⟩ := hcut
               cases kq with
               | zero => exact absurd HA.out (by simp [F84.j7])
               | succ kj78 =>
                have H := HA.out; clear HA; simp only [F84.j7] at H; have HC84 := Aside0.mk H; clear H
                go_upto_region 41 with (fail)
                go_cut [199] (fun v199 wc => ∃ (kq : Nat) (x199_83 : Bool), v199 = .bool x199_83 ∧ Aside0 (F84.j8 kq x0_78 a1 a3 (wrap64 ((IntKind.u64.wrap (wrap64 (a1 + a3))) / 2)) x20_2 (wrap64 ((wrap64 ((wrap64 ((IntKind.u64.wrap (wrap64 (a1 + a3))) / 2)) + a2)) - x20_2)) x199_83 s4_0 = some r) ∧ Aside0 (kq ≤ kj78) ∧ Aside0 (Kd.R (Kd.int .i64) 3 wc w0.heap.size (fun k_ => (P0_ k_ ∨ w.heap.size ≤ k_)) u9000_ x0_78) ∧ Aside0 (IsS37 w0 wc g s4_0) ∧ Aside0 (Kept w wc (fun k_ => (P0_ k_) ∨ k_ = g)) ∧ Aside0 (Below w0.heap.size w0 wc))
                case first =>
                 have H := HC84.out; clear HC84
                 by_cases c85 : a1 < x20_2
                 ·rw [if_pos c85] at H; have c85b0 := decide_eq_true c85; clear c85; (first | rw [c85b0] | (simp only [i64_w, i32_w]; rw [c85b0]) | skip); have H' := Aside0.mk H; clear H
                  go_wp2
                  go_meet
                  case rel => exact ⟨_, (decide (x20_2 < (wrap64 ((IntKind.u64.wrap (wrap64 (a1 + a3))) / 2)))), pbb2_0, H', ⟨by have := HJ59.out; have := HK2.out; have := HJ76.out; have := HJ78.out; first | omega | exact Nat.le_refl _⟩, ⟨pbb5_7⟩, ⟨pbb5_9⟩, ⟨pbb5_5⟩, ⟨pbb5_10⟩⟩
                 ·rw [if_neg c85] at H; have c85b0 := decide_eq_false c85; clear c85; (first | rw [c85b0] | (simp only [i64_w, i32_w]; rw [c85b0]) | skip); have H' := Aside0.mk H; clear H
                  go_wp2
                  go_meet
                  case rel => exact ⟨_, (false), pbb2_0, H', ⟨by have := HJ59.out; have := HK2.out; have := HJ76.out; have := HJ78.out; first | omega | exact Nat.le_refl _⟩, ⟨pbb5_7⟩, ⟨pbb5_9⟩, ⟨pbb5_5⟩, ⟨pbb5_10⟩⟩
                case rest =>
                 as_aux_lemma =>
                  clear HC84; (try clear hf5); (try clear hf27); (try clear hf28); (try clear hf54); (try clear hf55); obtain ⟨kq, x199_83, rfl, HA, HJ83, HO_0, HI4, HK, HB⟩ := hcut
                  cases kq with
                  | zero => exact absurd HA.out (by simp [F84.j8])
                  | succ kj83 =>
                   have H := HA.out; clear HA; simp only [F84.j8] at H
                   by_cases c86 : x199_83 = true
                   ·subst c86; rw [if_pos rfl] at H; obtain ⟨t122, A870, H⟩ := bnd H; have A87 := Aside0.mk A870; clear A870
                    by_cases c88 : (wrap64 ((IntKind.u64.wrap (wrap64 (a1 + a3))) / 2)) < (wrap64 ((wrap64 ((wrap64 ((IntKind.u64.wrap (wrap64 (a1 + a3))) / 2)) + a2)) - x20_2))
                    ·rw [if_pos c88] at H; have c88b0 := decide_eq_true c88; clear c88
                     by_cases c89 : (wrap64 ((wrap64 ((wrap64 ((IntKind.u64.wrap (wrap64 (a1 + a3))) / 2)) + a2)) - x20_2)) < a3
                     ·rw [if_pos c89] at H; have c89b0 := decide_eq_true c89; clear c89; obtain ⟨t123, A900, H⟩ := bnd H; have A90 := Aside0.mk A900; clear A900; obtain rfl := Option.some.inj H; obtain ⟨Ao91, co91, eo91⟩ := Kd.R_slice HO_0.out; subst eo91
                      go_wp2_with (first | ((with_reducible refine gate_callee (f := 84) rfl ?_); refine goesL_ (some 205) rfl rfl Tryd.func84 (by kernel_rfl) rfl #[.slice Ao91 x0_78.length co91, .int .i64 a1, .int .i64 x20_2, .int .i64 (wrap64 ((IntKind.u64.wrap (wrap64 (a1 + a3))) / 2)), .func (.func 81) #[] #[.pointer (some ⟨g, 0, none⟩)]] rfl pbb2_2 ?_; (with_reducible refine (ih kj83 pbb6_2 (fun k_ => some k_ = (.slice Ao91 x0_78.length co91 : Value).ownBlock) (.slice Ao91 x0_78.length co91) x0_78 a1 x20_2 (wrap64 ((IntKind.u64.wrap (wrap64 (a1 + a3))) / 2)) g s4_0 t122 w0 _ ?side1 ?side2 ?side3 A87.out).mono ?_); (case side1 => repeat (first | (with_reducible first | exact HI4.out | apply IsS37.alloc | apply IsS37.drewN | apply IsS37.drew) | exact HI4.out)); (case side2 => repeat (first | (with_reducible first | exact HB.out | apply below_alloc | apply pw_below_drewN | apply below_drew1 | refine below_set ?_ (IsS37.ge HI4.out)) | exact HB.out)); (case side3 => exact Kd.R_tight rfl HO_0.out); rintro e w92 ⟨rfl, hi, hy0, hb, hkp⟩; refine ⟨_, rfl, ?_⟩; replace HI4 := Aside0.mk (hi); replace HK := Aside0.mk (Kept.then_ (S := (fun k_ => (P0_ k_) ∨ k_ = g)) pbb5_5 hkp (fun k_ hs_ => Or.elim hs_ (fun hs_ => (fun e_ => Or.imp_left Or.inl ((HO_0.out.1 k_ e_.symm))) hs_) (fun e_ => .inl (.inr e_)))); replace HO_0 := Aside0.mk (Kd.R_reok rfl hy0 (fun k_ e_ => HO_0.out.1 k_ e_)); replace HB := Aside0.mk (hb); (try clear hb); (try clear hkp); (try clear hy0)) | ((with_reducible refine gate_callee (f := 84) rfl ?_); refine goesL_ (some 219) rfl rfl Tryd.func84 (by kernel_rfl) rfl #[.slice Ao91 x0_78.length co91, .int .i64 (wrap64 ((IntKind.u64.wrap (wrap64 (a1 + a3))) / 2)), .int .i64 (wrap64 ((wrap64 ((wrap64 ((IntKind.u64.wrap (wrap64 (a1 + a3))) / 2)) + a2)) - x20_2)), .int .i64 a3, .func (.func 81) #[] #[.pointer (some ⟨g, 0, none⟩)]] rfl pbb2_2 ?_; (with_reducible refine (ih kj83 pbb6_2 (fun k_ => some k_ = (.slice Ao91 x0_78.length co91 : Value).ownBlock) (.slice Ao91 x0_78.length co91) t122 (wrap64 ((IntKind.u64.wrap (wrap64 (a1 + a3))) / 2)) (wrap64 ((wrap64 ((wrap64 ((IntKind.u64.wrap (wrap64 (a1 + a3))) / 2)) + a2)) - x20_2)) a3 g s4_0 t123 w0 _ ?side1 ?side2 ?side3 A90.out).mono ?_); (case side1 => repeat (first | (with_reducible first | exact HI4.out | apply IsS37.alloc | apply IsS37.drewN | apply IsS37.drew) | exact HI4.out)); (case side2 => repeat (first | (with_reducible first | exact HB.out | apply below_alloc | apply pw_below_drewN | apply below_drew1 | refine below_set ?_ (IsS37.ge HI4.out)) | exact HB.out)); (case side3 => exact Kd.R_tight rfl HO_0.out); rintro e w93 ⟨rfl, hi, hy0, hb, hkp⟩; refine ⟨_, rfl, ?_⟩; replace HI4 := Aside0.mk (hi); replace HK := Aside0.mk (Kept.then_ (S := (fun k_ => (P0_ k_) ∨ k_ = g)) pbb5_5 hkp (fun k_ hs_ => Or.elim hs_ (fun hs_ => (fun e_ => Or.imp_left Or.inl ((HO_0.out.1 k_ e_.symm))) hs_) (fun e_ => .inl (.inr e_)))); replace HO_0 := Aside0.mk (Kd.R_reok rfl hy0 (fun k_ e_ => HO_0.out.1 k_ e_)); replace HB := Aside0.mk (hb); (try clear hb); (try clear hkp); (try clear hy0)))
                      first | go_end0 | ((try simp only [Exit.inBlock, Exit.then]); refine bodyPost_ret (results_none rfl _ _ _) rfl ?_)
                      exact ⟨pbb2_5, pbb5_9, pbb5_7, pbb5_10, pbb5_5⟩
                     ·rw [if_neg c89] at H; have c89b0 := decide_eq_false c89; clear c89; obtain rfl := Option.some.inj H; obtain ⟨Ao94, co94, eo94⟩ := Kd.R_slice HO_0.out; subst eo94
                      go_wp2_with (first | ((with_reducible refine gate_callee (f := 84) rfl ?_); refine goesL_ (some 205) rfl rfl Tryd.func84 (by kernel_rfl) rfl #[.slice Ao94 x0_78.length co94, .int .i64 a1, .int .i64 x20_2, .int .i64 (wrap64 ((IntKind.u64.wrap (wrap64 (a1 + a3))) / 2)), .func (.func 81) #[] #[.pointer (some ⟨g, 0, none⟩)]] rfl pbb2_2 ?_; (with_reducible refine (ih kj83 pbb6_2 (fun k_ => some k_ = (.slice Ao94 x0_78.length co94 : Value).ownBlock) (.slice Ao94 x0_78.length co94) x0_78 a1 x20_2 (wrap64 ((IntKind.u64.wrap (wrap64 (a1 + a3))) / 2)) g s4_0 t122 w0 _ ?side1 ?side2 ?side3 A87.out).mono ?_); (case side1 => repeat (first | (with_reducible first | exact HI4.out | apply IsS37.alloc | apply IsS37.drewN | apply IsS37.drew) | exact HI4.out)); (case side2 => repeat (first | (with_reducible first | exact HB.out | apply below_alloc | apply pw_below_drewN | apply below_drew1 | refine below_set ?_ (IsS37.ge HI4.out)) | exact HB.out)); (case side3 => exact Kd.R_tight rfl HO_0.out); rintro e w95 ⟨rfl, hi, hy0, hb, hkp⟩; refine ⟨_, rfl, ?_⟩; replace HI4 := Aside0.mk (hi); replace HK := Aside0.mk (Kept.then_ (S := (fun k_ => (P0_ k_) ∨ k_ = g)) pbb5_5 hkp (fun k_ hs_ => Or.elim hs_ (fun hs_ => (fun e_ => Or.imp_left Or.inl ((HO_0.out.1 k_ e_.symm))) hs_) (fun e_ => .inl (.inr e_)))); replace HO_0 := Aside0.mk (Kd.R_reok rfl hy0 (fun k_ e_ => HO_0.out.1 k_ e_)); replace HB := Aside0.mk (hb); (try clear hb); (try clear hkp); (try clear hy0)))
                      first | go_end0 | ((try simp only [Exit.inBlock, Exit.then]); refine bodyPost_ret (results_none rfl _ _ _) rfl ?_)
                      exact ⟨pbb2_5, pbb5_9, pbb5_7, pbb5_10, pbb5_5⟩
                    ·rw [if_neg c88] at H; have c88b0 := decide_eq_false c88; clear c88; obtain rfl := Option.some.inj H; obtain ⟨Ao96, co96, eo96⟩ := Kd.R_slice HO_0.out; subst eo96
                     go_wp2_with (first | ((with_reducible refine gate_callee (f := 84) rfl ?_); refine goesL_ (some 205) rfl rfl Tryd.func84 (by kernel_rfl) rfl #[.slice Ao96 x0_78.length co96, .int .i64 a1, .int .i64 x20_2, .int .i64 (wrap64 ((IntKind.u64.wrap (wrap64 (a1 + a3))) / 2)), .func (.func 81) #[] #[.pointer (some ⟨g, 0, none⟩)]] rfl pbb2_2 ?_; (with_reducible refine (ih kj83 pbb6_2 (fun k_ => some k_ = (.slice Ao96 x0_78.length co96 : Value).ownBlock) (.slice Ao96 x0_78.length co96) x0_78 a1 x20_2 (wrap64 ((IntKind.u64.wrap (wrap64 (a1 + a3))) / 2)) g s4_0 t122 w0 _ ?side1 ?side2 ?side3 A87.out).mono ?_); (case side1 => repeat (first | (with_reducible first | exact HI4.out | apply IsS37.alloc | apply IsS37.drewN | apply IsS37.drew) | exact HI4.out)); (case side2 => repeat (first | (with_reducible first | exact HB.out | apply below_alloc | apply pw_below_drewN | apply below_drew1 | refine below_set ?_ (IsS37.ge HI4.out)) | exact HB.out)); (case side3 => exact Kd.R_tight rfl HO_0.out); rintro e w97 ⟨rfl, hi, hy0, hb, hkp⟩; refine ⟨_, rfl, ?_⟩; replace HI4 := Aside0.mk (hi); replace HK := Aside0.mk (Kept.then_ (S := (fun k_ => (P0_ k_) ∨ k_ = g)) pbb5_5 hkp (fun k_ hs_ => Or.elim hs_ (fun hs_ => (fun e_ => Or.imp_left Or.inl ((HO_0.out.1 k_ e_.symm))) hs_) (fun e_ => .inl (.inr e_)))); replace HO_0 := Aside0.mk (Kd.R_reok rfl hy0 (fun k_ e_ => HO_0.out.1 k_ e_)); replace HB := Aside0.mk (hb); (try clear hb); (try clear hkp); (try clear hy0)))
                     first | go_end0 | ((try simp only [Exit.inBlock, Exit.then]); refine bodyPost_ret (results_none rfl _ _ _) rfl ?_)
                     exact ⟨pbb2_5, pbb5_9, pbb5_7, pbb5_10, pbb5_5⟩
                   ·replace c86 := Bool.eq_false_iff.mpr c86; subst c86; rw [if_neg (show ¬ (false = true) by decide)] at H
                    by_cases c98 : (wrap64 ((IntKind.u64.wrap (wrap64 (a1 + a3))) / 2)) < (wrap64 ((wrap64 ((wrap64 ((IntKind.u64.wrap (wrap64 (a1 + a3))) / 2)) + a2)) - x20_2))
                    ·rw [if_pos c98] at H; have c98b0 := decide_eq_true c98; clear c98
                     by_cases c99 : (wrap64 ((wrap64 ((wrap64 ((IntKind.u64.wrap (wrap64 (a1 + a3))) / 2)) + a2)) - x20_2)) < a3
                     ·rw [if_pos c99] at H; have c99b0 := decide_eq_true c99; clear c99; obtain ⟨t124, A1000, H⟩ := bnd H; have A100 := Aside0.mk A1000; clear A1000; obtain rfl := Option.some.inj H; obtain ⟨Ao101, co101, eo101⟩ := Kd.R_slice HO_0.out; subst eo101
                      go_wp2_with (first | ((with_reducible refine gate_callee (f := 84) rfl ?_); refine goesL_ (some 219) rfl rfl Tryd.func84 (by kernel_rfl) rfl #[.slice Ao101 x0_78.length co101, .int .i64 (wrap64 ((IntKind.u64.wrap (wrap64 (a1 + a3))) / 2)), .int .i64 (wrap64 ((wrap64 ((wrap64 ((IntKind.u64.wrap (wrap64 (a1 + a3))) / 2)) + a2)) - x20_2)), .int .i64 a3, .func (.func 81) #[] #[.pointer (some ⟨g, 0, none⟩)]] rfl pbb2_2 ?_; (with_reducible refine (ih kj83 pbb6_2 (fun k_ => some k_ = (.slice Ao101 x0_78.length co101 : Value).ownBlock) (.slice Ao101 x0_78.length co101) x0_78 (wrap64 ((IntKind.u64.wrap (wrap64 (a1 + a3))) / 2)) (wrap64 ((wrap64 ((wrap64 ((IntKind.u64.wrap (wrap64 (a1 + a3))) / 2)) + a2)) - x20_2)) a3 g s4_0 t124 w0 _ ?side1 ?side2 ?side3 A100.out).mono ?_); (case side1 => repeat (first | (with_reducible first | exact HI4.out | apply IsS37.alloc | apply IsS37.drewN | apply IsS37.drew) | exact HI4.out)); (case side2 => repeat (first | (with_reducible first | exact HB.out | apply below_alloc | apply pw_below_drewN | apply below_drew1 | refine below_set ?_ (IsS37.ge HI4.out)) | exact HB.out)); (case side3 => exact Kd.R_tight rfl HO_0.out); rintro e w102 ⟨rfl, hi, hy0, hb, hkp⟩; refine ⟨_, rfl, ?_⟩; replace HI4 := Aside0.mk (hi); replace HK := Aside0.mk (Kept.then_ (S := (fun k_ => (P0_ k_) ∨ k_ = g)) pbb5_5 hkp (fun k_ hs_ => Or.elim hs_ (fun hs_ => (fun e_ => Or.imp_left Or.inl ((HO_0.out.1 k_ e_.symm))) hs_) (fun e_ => .inl (.inr e_)))); replace HO_0 := Aside0.mk (Kd.R_reok rfl hy0 (fun k_ e_ => HO_0.out.1 k_ e_)); replace HB := Aside0.mk (hb); (try clear hb); (try clear hkp); (try clear hy0)))
                      first | go_end0 | ((try simp only [Exit.inBlock, Exit.then]); refine bodyPost_ret (results_none rfl _ _ _) rfl ?_)
                      exact ⟨pbb2_5, pbb5_9, pbb5_7, pbb5_10, pbb5_5⟩
                     ·rw [if_neg c99] at H; have c99b0 := decide_eq_false c99; clear c99; obtain rfl := Option.some.inj H
                      go_wp2
                      first | go_end0 | ((try simp only [Exit.inBlock, Exit.then]); refine bodyPost_ret (results_none rfl _ _ _) rfl ?_)
                      exact ⟨pbb2_5, pbb5_9, pbb5_7, pbb5_10, pbb5_5⟩
                    ·rw [if_neg c98] at H; have c98b0 := decide_eq_false c98; clear c98; obtain rfl := Option.some.inj H
                     go_wp2
                     first | go_end0 | ((try simp only [Exit.inBlock, Exit.then]); refine bodyPost_ret (results_none rfl _ _ _) rfl ?_)
                     exact ⟨pbb2_5, pbb5_9, pbb5_7, pbb5_10, pbb5_5⟩
mutual
def F82.l0 : Nat → List Int → Int → Int → Int → Int → List Int → Option (List Int)
  | 0, _, _, _, _, _, _ => none
  | k + 1, x0, x1, x6, x7, x8, x3000 => if x8 ≤ x1 then ((F83.f k x0 x7 x8 x3000).bind fun t125 => (F82.l0 k t125 x1 x6 x8 (wrap64 (x8 + x6)) x3000)) else ((F83.f k x0 x7 x1 x3000).bind fun t126 => (F82.l1 k t126 x1 x6 x3000))
def F82.l1 : Nat → List Int → Int → Int → List Int → Option (List Int)
  | 0, _, _, _, _ => none
  | k + 1, x0, x1, x6, x3000 => if x6 < x1 then (F82.l2 k x0 x1 x6 0 (wrap64 (2 * x6)) x3000) else (some x0)
def F82.l2 : Nat → List Int → Int → Int → Int → Int → List Int → Option (List Int)
  | 0, _, _, _, _, _, _ => none
  | k + 1, x0, x1, x6, x7, x8, x3000 => if x8 ≤ x1 then ((F84.f k x0 x7 (wrap64 (x7 + x6)) x8 x3000).bind fun t127 => (F82.l2 k t127 x1 x6 x8 (wrap64 (x8 + (wrap64 (2 * x6)))) x3000)) else (if (wrap64 (x7 + x6)) < x1 then ((F84.f k x0 x7 (wrap64 (x7 + x6)) x1 x3000).bind fun t128 => (F82.l1 k t128 x1 (wrap64 (x6 * 2)) x3000)) else (F82.l1 k x0 x1 (wrap64 (x6 * 2)) x3000))
end
def F82.f (k : Nat) (l0 : List Int) (a1 : Int) (s2_0 : List Int) : Option (List Int) := F82.l0 k l0 a1 20 0 20 s2_0
set_option maxHeartbeats 8000000 in
set_option maxRecDepth 100000 in
theorem F82.calls (k : Nat) (P0_ : Nat → Prop) (u9000_ : Value) (l0 : List Int) (a1 : Int) (g : Nat) (s2_0 : List Int) (r : List Int) (w0 w : World) (hI : IsS37 w0 w g s2_0) (hB : Below w0.heap.size w0 w) (ho0 : Kd.R (Kd.int .i64) 3 w w0.heap.size P0_ u9000_ l0) (h : F82.f k l0 a1 s2_0 = some r) :
    Calls Tryd.prog 82 #[u9000_, .int .i64 a1, .func (.func 81) #[] #[.pointer (some ⟨g, 0, none⟩)]] w fun e w' => e = .returned (.tuple #[]) ∧ IsS37 w0 w' g s2_0 ∧ Kd.R (Kd.int .i64) 3 w' w0.heap.size (fun k_ => (P0_ k_ ∨ w.heap.size ≤ k_)) u9000_ r ∧ Below w0.heap.size w0 w' ∧ Kept w w' (fun k_ => (P0_ k_) ∨ k_ = g) := by
 have HO0 := Aside0.mk (show Kd.R (Kd.int .i64) 3 w w0.heap.size (fun k_ => (P0_ k_ ∨ w.heap.size ≤ k_)) u9000_ l0 from Kd.R_mono ho0 (fun k_ hk => (.inl hk))); have HI2 := Aside0.mk hI; have HL := Aside0.mk hB.size; clear hI; have HK := Aside0.mk (Kept.refl w (fun k_ => (P0_ k_) ∨ k_ = g)); have HW0 := Aside0.mk hB.size; have HB := Aside0.mk hB; clear hB
 unfold F82.f at h
 have H := h; clear h; have H' := Aside0.mk H; clear H; go_enter Tryd.func82, Tryd.ntmps82
 go_wp2
 go_loopg [7, 8] k (fun kq v7 v8 w' => ∃ (x0_1 : List Int) (x7_1 : Int) (x8_1 : Int), v7 = .int .i64 x7_1 ∧ v8 = .int .i64 x8_1 ∧ Aside0 (F82.l0 kq x0_1 a1 20 x7_1 x8_1 s2_0 = some r) ∧ Aside0 (kq ≤ k) ∧ Aside0 (Kd.R (Kd.int .i64) 3 w' w0.heap.size (fun k_ => (P0_ k_ ∨ w.heap.size ≤ k_)) u9000_ x0_1) ∧ Aside0 (IsS37 w0 w' g s2_0) ∧ Aside0 (Kept w w' (fun k_ => (P0_ k_) ∨ k_ = g)) ∧ Aside0 (Below w0.heap.size w0 w'))
 case atStart => exact ⟨(l0), (0), (20), pbb2_0, pbb2_0, H', ⟨Nat.le_refl _⟩, ⟨pbb5_3⟩, ⟨pbb5_0⟩, ⟨pbb5_5⟩, ⟨pbb5_1⟩⟩
 case round =>
  clear H'; obtain ⟨x0_1, x7_1, x8_1, rfl, rfl, HA, HK1, HO_0, HI2, HK, HB⟩ := hrel
  cases gk with
  | zero => exact absurd HA.out (by simp [F82.l0])
  | succ k1 =>
   have H := HA.out; clear HA; simp only [F82.l0] at H
   by_cases c4 : x8_1 ≤ a1
   ·rw [if_pos c4] at H; have c4b0 := decide_eq_true c4; clear c4; obtain ⟨t125, A50, H⟩ := bnd H; have A5 := Aside0.mk A50; clear A50; have H' := Aside0.mk H; clear H; obtain ⟨Ao6, co6, eo6⟩ := Kd.R_slice HO_0.out; subst eo6
    go_wp2_with (first | ((with_reducible refine gate_callee (f := 83) rfl ?_); refine goesL_ (some 18) rfl rfl Tryd.func83 (by kernel_rfl) rfl #[.slice Ao6 x0_1.length co6, .int .i64 x7_1, .int .i64 x8_1, .func (.func 81) #[] #[.pointer (some ⟨g, 0, none⟩)]] rfl pbb2_2 ?_; (with_reducible refine (F83.calls k1 (fun k_ => some k_ = (.slice Ao6 x0_1.length co6 : Value).ownBlock) (.slice Ao6 x0_1.length co6) x0_1 x7_1 x8_1 g s2_0 t125 w0 _ ?side1 ?side2 ?side3 A5.out).mono ?_); (case side1 => repeat (first | (with_reducible first | exact HI2.out | apply IsS37.alloc | apply IsS37.drewN | apply IsS37.drew) | exact HI2.out)); (case side2 => repeat (first | (with_reducible first | exact HB.out | apply below_alloc | apply pw_below_drewN | apply below_drew1 | refine below_set ?_ (IsS37.ge HI2.out)) | exact HB.out)); (case side3 => exact Kd.R_tight rfl HO_0.out); rintro e w7 ⟨rfl, hi, hy0, hb, hkp⟩; refine ⟨_, rfl, ?_⟩; replace HI2 := Aside0.mk (hi); replace HK := Aside0.mk (Kept.then_ (S := (fun k_ => (P0_ k_) ∨ k_ = g)) pbb5_5 hkp (fun k_ hs_ => Or.elim hs_ (fun hs_ => (fun e_ => Or.imp_left Or.inl ((HO_0.out.1 k_ e_.symm))) hs_) (fun e_ => .inl (.inr e_)))); replace HO_0 := Aside0.mk (Kd.R_reok rfl hy0 (fun k_ e_ => HO_0.out.1 k_ e_)); replace HB := Aside0.mk (hb); (try clear hb); (try clear hkp); (try clear hy0)))
    go_roundg k1
    case measure => have := HK1.out; omega
    case rel => exact ⟨(t125), (x8_1), (wrap64 (x8_1 + 20)), pbb2_0, pbb2_0, H', ⟨pbb6_1⟩, ⟨pbb5_7⟩, ⟨pbb5_0⟩, ⟨pbb5_5⟩, ⟨pbb5_1⟩⟩
   ·rw [if_neg c4] at H; have c4b0 := decide_eq_false c4; clear c4; obtain ⟨t126, A80, H⟩ := bnd H; have A8 := Aside0.mk A80; clear A80; have H' := Aside0.mk H; clear H; obtain ⟨Ao9, co9, eo9⟩ := Kd.R_slice HO_0.out; subst eo9
    go_wp2_with (first | ((with_reducible refine gate_callee (f := 83) rfl ?_); refine goesL_ (some 27) rfl rfl Tryd.func83 (by kernel_rfl) rfl #[.slice Ao9 x0_1.length co9, .int .i64 x7_1, .int .i64 a1, .func (.func 81) #[] #[.pointer (some ⟨g, 0, none⟩)]] rfl pbb2_2 ?_; (with_reducible refine (F83.calls k1 (fun k_ => some k_ = (.slice Ao9 x0_1.length co9 : Value).ownBlock) (.slice Ao9 x0_1.length co9) x0_1 x7_1 a1 g s2_0 t126 w0 _ ?side1 ?side2 ?side3 A8.out).mono ?_); (case side1 => repeat (first | (with_reducible first | exact HI2.out | apply IsS37.alloc | apply IsS37.drewN | apply IsS37.drew) | exact HI2.out)); (case side2 => repeat (first | (with_reducible first | exact HB.out | apply below_alloc | apply pw_below_drewN | apply below_drew1 | refine below_set ?_ (IsS37.ge HI2.out)) | exact HB.out)); (case side3 => exact Kd.R_tight rfl HO_0.out); rintro e w10 ⟨rfl, hi, hy0, hb, hkp⟩; refine ⟨_, rfl, ?_⟩; replace HI2 := Aside0.mk (hi); replace HK := Aside0.mk (Kept.then_ (S := (fun k_ => (P0_ k_) ∨ k_ = g)) pbb5_5 hkp (fun k_ hs_ => Or.elim hs_ (fun hs_ => (fun e_ => Or.imp_left Or.inl ((HO_0.out.1 k_ e_.symm))) hs_) (fun e_ => .inl (.inr e_)))); replace HO_0 := Aside0.mk (Kd.R_reok rfl hy0 (fun k_ e_ => HO_0.out.1 k_ e_)); replace HB := Aside0.mk (hb); (try clear hb); (try clear hkp); (try clear hy0)))
    (try simp only [Act.put, List.setIfInBounds_toArray, List.set_cons_zero, List.set_cons_succ])
    go_loopg [6] k1 (fun kq v6 w' => ∃ (x0_2 : List Int) (x6_2 : Int), v6 = .int .i64 x6_2 ∧ Aside0 (F82.l1 kq x0_2 a1 x6_2 s2_0 = some r) ∧ Aside0 (kq ≤ k1) ∧ Aside0 (Kd.R (Kd.int .i64) 3 w' w0.heap.size (fun k_ => (P0_ k_ ∨ w.heap.size ≤ k_)) (.slice Ao9 x0_1.length co9) x0_2) ∧ Aside0 (IsS37 w0 w' g s2_0) ∧ Aside0 (Kept w w' (fun k_ => (P0_ k_) ∨ k_ = g)) ∧ Aside0 (Below w0.heap.size w0 w'))
    case atStart => exact ⟨(t126), (20), pbb2_0, H', ⟨Nat.le_refl _⟩, ⟨pbb5_7⟩, ⟨pbb5_0⟩, ⟨pbb5_5⟩, ⟨pbb5_1⟩⟩
    case round =>
     clear H'; obtain ⟨x0_2, x6_2, rfl, HA, HK2, HO_0, HI2, HK, HB⟩ := hrel; have hl0_2 := (Kd.R_reads' HO_0.out).1; rw [hl0_2] at HO_0; (try simp only [hl0_2])
     cases gk with
     | zero => exact absurd HA.out (by simp [F82.l1])
     | succ k2 =>
      have H := HA.out; clear HA; simp only [F82.l1] at H
      by_cases c11 : x6_2 < a1
      ·rw [if_pos c11] at H; have c11b0 := decide_eq_true c11; clear c11; have H' := Aside0.mk H; clear H
       go_wp2
       go_loopg [7, 8] k2 (fun kq v7 v8 w' => ∃ (x0_3 : List Int) (x7_3 : Int) (x8_3 : Int), v7 = .int .i64 x7_3 ∧ v8 = .int .i64 x8_3 ∧ Aside0 (F82.l2 kq x0_3 a1 x6_2 x7_3 x8_3 s2_0 = some r) ∧ Aside0 (kq ≤ k2) ∧ Aside0 (Kd.R (Kd.int .i64) 3 w' w0.heap.size (fun k_ => (P0_ k_ ∨ w.heap.size ≤ k_)) (.slice Ao9 x0_2.length co9) x0_3) ∧ Aside0 (IsS37 w0 w' g s2_0) ∧ Aside0 (Kept w w' (fun k_ => (P0_ k_) ∨ k_ = g)) ∧ Aside0 (Below w0.heap.size w0 w'))
       case atStart => exact ⟨(x0_2), (0), (wrap64 (2 * x6_2)), pbb2_0, pbb2_0, H', ⟨Nat.le_refl _⟩, ⟨by (try simp only [hl0_2]); (with_reducible repeat (first | apply Kd.R_alloc | apply Kd.R_drewN | apply Kd.R_drew)); exact HO_0.out⟩, ⟨pbb5_0⟩, ⟨pbb5_5⟩, ⟨pbb5_1⟩⟩
       case round =>
        clear H'; obtain ⟨x0_3, x7_3, x8_3, rfl, rfl, HA, HK3, HO_0, HI2, HK, HB⟩ := hrel; have hl0_3 := (Kd.R_reads' HO_0.out).1; rw [hl0_3] at HO_0; (try simp only [hl0_3])
        cases gk with
        | zero => exact absurd HA.out (by simp [F82.l2])
        | succ k3 =>
         have H := HA.out; clear HA; simp only [F82.l2] at H
         by_cases c12 : x8_3 ≤ a1
         ·rw [if_pos c12] at H; have c12b0 := decide_eq_true c12; clear c12; obtain ⟨t127, A130, H⟩ := bnd H; have A13 := Aside0.mk A130; clear A130; have H' := Aside0.mk H; clear H
          go_wp2_with (first | ((with_reducible refine gate_callee (f := 84) rfl ?_); refine goesL_ (some 43) rfl rfl Tryd.func84 (by kernel_rfl) rfl #[.slice Ao9 x0_3.length co9, .int .i64 x7_3, .int .i64 (wrap64 (x7_3 + x6_2)), .int .i64 x8_3, .func (.func 81) #[] #[.pointer (some ⟨g, 0, none⟩)]] rfl pbb2_2 ?_; (with_reducible refine (F84.calls k3 (fun k_ => some k_ = (.slice Ao9 x0_3.length co9 : Value).ownBlock) (.slice Ao9 x0_3.length co9) x0_3 x7_3 (wrap64 (x7_3 + x6_2)) x8_3 g s2_0 t127 w0 _ ?side1 ?side2 ?side3 A13.out).mono ?_); (case side1 => repeat (first | (with_reducible first | exact HI2.out | apply IsS37.alloc | apply IsS37.drewN | apply IsS37.drew) | exact HI2.out)); (case side2 => repeat (first | (with_reducible first | exact HB.out | apply below_alloc | apply pw_below_drewN | apply below_drew1 | refine below_set ?_ (IsS37.ge HI2.out)) | exact HB.out)); (case side3 => exact Kd.R_tight rfl HO_0.out); rintro e w14 ⟨rfl, hi, hy0, hb, hkp⟩; refine ⟨_, rfl, ?_⟩; replace HI2 := Aside0.mk (hi); replace HK := Aside0.mk (Kept.then_ (S := (fun k_ => (P0_ k_) ∨ k_ = g)) pbb5_5 hkp (fun k_ hs_ => Or.elim hs_ (fun hs_ => (fun e_ => Or.imp_left Or.inl ((HO_0.out.1 k_ e_.symm))) hs_) (fun e_ => .inl (.inr e_)))); replace HO_0 := Aside0.mk (Kd.R_reok rfl hy0 (fun k_ e_ => HO_0.out.1 k_ e_)); replace HB := Aside0.mk (hb); (try clear hb); (try clear hkp); (try clear hy0)))
          (try simp only [← hl0_3])
          go_roundg k3
          case measure => have := HK1.out; have := HK2.out; have := HK3.out; omega
          case rel => exact ⟨(t127), (x8_3), (wrap64 (x8_3 + (wrap64 (2 * x6_2)))), pbb2_0, pbb2_0, H', ⟨by have := HK1.out; have := HK2.out; have := HK3.out; omega⟩, ⟨pbb6_3⟩, ⟨pbb5_0⟩, ⟨pbb5_5⟩, ⟨pbb5_1⟩⟩
         ·rw [if_neg c12] at H; have c12b0 := decide_eq_false c12; clear c12
          by_cases c15 : (wrap64 (x7_3 + x6_2)) < a1
          ·rw [if_pos c15] at H; have c15b0 := decide_eq_true c15; clear c15; obtain ⟨t128, A160, H⟩ := bnd H; have A16 := Aside0.mk A160; clear A160; have H' := Aside0.mk H; clear H
           go_wp2_with (first | ((with_reducible refine gate_callee (f := 84) rfl ?_); refine goesL_ (some 60) rfl rfl Tryd.func84 (by kernel_rfl) rfl #[.slice Ao9 x0_3.length co9, .int .i64 x7_3, .int .i64 (wrap64 (x7_3 + x6_2)), .int .i64 a1, .func (.func 81) #[] #[.pointer (some ⟨g, 0, none⟩)]] rfl pbb2_2 ?_; (with_reducible refine (F84.calls k3 (fun k_ => some k_ = (.slice Ao9 x0_3.length co9 : Value).ownBlock) (.slice Ao9 x0_3.length co9) x0_3 x7_3 (wrap64 (x7_3 + x6_2)) a1 g s2_0 t128 w0 _ ?side1 ?side2 ?side3 A16.out).mono ?_); (case side1 => repeat (first | (with_reducible first | exact HI2.out | apply IsS37.alloc | apply IsS37.drewN | apply IsS37.drew) | exact HI2.out)); (case side2 => repeat (first | (with_reducible first | exact HB.out | apply below_alloc | apply pw_below_drewN | apply below_drew1 | refine below_set ?_ (IsS37.ge HI2.out)) | exact HB.out)); (case side3 => exact Kd.R_tight rfl HO_0.out); rintro e w17 ⟨rfl, hi, hy0, hb, hkp⟩; refine ⟨_, rfl, ?_⟩; replace HI2 := Aside0.mk (hi); replace HK := Aside0.mk (Kept.then_ (S := (fun k_ => (P0_ k_) ∨ k_ = g)) pbb5_5 hkp (fun k_ hs_ => Or.elim hs_ (fun hs_ => (fun e_ => Or.imp_left Or.inl ((HO_0.out.1 k_ e_.symm))) hs_) (fun e_ => .inl (.inr e_)))); replace HO_0 := Aside0.mk (Kd.R_reok rfl hy0 (fun k_ e_ => HO_0.out.1 k_ e_)); replace HB := Aside0.mk (hb); (try clear hb); (try clear hkp); (try clear hy0)))
           (try simp only [← hl0_2, ← hl0_3])
           go_roundg k3
           case measure => have := HK1.out; have := HK2.out; have := HK3.out; omega
           case rel => exact ⟨(t128), (wrap64 (x6_2 * 2)), pbb2_0, H', ⟨by have := HK1.out; have := HK2.out; have := HK3.out; omega⟩, ⟨pbb6_3⟩, ⟨pbb5_0⟩, ⟨pbb5_5⟩, ⟨pbb5_1⟩⟩
          ·rw [if_neg c15] at H; have c15b0 := decide_eq_false c15; clear c15; have H' := Aside0.mk H; clear H
           go_wp2
           (try simp only [← hl0_2, ← hl0_3])
           go_roundg k3
           case measure => have := HK1.out; have := HK2.out; have := HK3.out; omega
           case rel => exact ⟨(x0_3), (wrap64 (x6_2 * 2)), pbb2_0, H', ⟨by have := HK1.out; have := HK2.out; have := HK3.out; omega⟩, ⟨pbb6_3⟩, ⟨pbb5_0⟩, ⟨pbb5_5⟩, ⟨pbb5_1⟩⟩
      ·rw [if_neg c11] at H; have c11b0 := decide_eq_false c11; clear c11; obtain rfl := Option.some.inj H
       go_wp2
       first | go_end0 | ((try simp only [Exit.inBlock, Exit.then]); refine bodyPost_ret (results_none rfl _ _ _) rfl ?_)
       exact ⟨pbb2_5, pbb5_0, (by first | exact pbb5_7 | (simp only [hl0_2]; exact pbb5_7)), pbb5_1, pbb5_5⟩
def F80.f (k : Nat) (l0 : List Int) (s1_0 : List Int) : Option (List Int) := (F82.f k l0 (l0.length : Int) s1_0).bind fun t101 => (some t101)
set_option maxHeartbeats 8000000 in
set_option maxRecDepth 100000 in
theorem F80.calls (k : Nat) (P0_ : Nat → Prop) (u9000_ : Value) (l0 : List Int) (g : Nat) (s1_0 : List Int) (r : List Int) (w0 w : World) (hI : IsS37 w0 w g s1_0) (hB : Below w0.heap.size w0 w) (ho0 : Kd.R (Kd.int .i64) 3 w w0.heap.size P0_ u9000_ l0) (h : F80.f k l0 s1_0 = some r) :
    Calls Tryd.prog 80 #[u9000_, .func (.func 81) #[] #[.pointer (some ⟨g, 0, none⟩)]] w fun e w' => e = .returned (.tuple #[]) ∧ IsS37 w0 w' g s1_0 ∧ Kd.R (Kd.int .i64) 3 w' w0.heap.size (fun k_ => (P0_ k_ ∨ w.heap.size ≤ k_)) u9000_ r ∧ Below w0.heap.size w0 w' ∧ Kept w w' (fun k_ => (P0_ k_) ∨ k_ = g) := by
 have HO0 := Aside0.mk (show Kd.R (Kd.int .i64) 3 w w0.heap.size (fun k_ => (P0_ k_ ∨ w.heap.size ≤ k_)) u9000_ l0 from Kd.R_mono ho0 (fun k_ hk => (.inl hk))); have HI1 := Aside0.mk hI; have HL := Aside0.mk hB.size; clear hI; have HK := Aside0.mk (Kept.refl w (fun k_ => (P0_ k_) ∨ k_ = g)); have HW0 := Aside0.mk hB.size; have HB := Aside0.mk hB; clear hB
 unfold F80.f at h
 have H := h; clear h; obtain ⟨t101, A30, H⟩ := bnd H; have A3 := Aside0.mk A30; clear A30; obtain rfl := Option.some.inj H; obtain ⟨Ao4, co4, eo4⟩ := Kd.R_slice HO0.out; subst eo4; go_enter Tryd.func80, Tryd.ntmps80
 go_wp2_with (first | ((with_reducible refine gate_callee (f := 82) rfl ?_); refine goesL_ (some 8) rfl rfl Tryd.func82 (by kernel_rfl) rfl #[.slice Ao4 l0.length co4, .int .i64 (l0.length : Int), .func (.func 81) #[] #[.pointer (some ⟨g, 0, none⟩)]] rfl pbb2_2 ?_; (with_reducible refine (F82.calls k (fun k_ => some k_ = (.slice Ao4 l0.length co4 : Value).ownBlock) (.slice Ao4 l0.length co4) l0 (l0.length : Int) g s1_0 t101 w0 _ ?side1 ?side2 ?side3 A3.out).mono ?_); (case side1 => repeat (first | (with_reducible first | exact HI1.out | apply IsS37.alloc | apply IsS37.drewN | apply IsS37.drew) | exact HI1.out)); (case side2 => repeat (first | (with_reducible first | exact HB.out | apply below_alloc | apply pw_below_drewN | apply below_drew1 | refine below_set ?_ (IsS37.ge HI1.out)) | exact HB.out)); (case side3 => exact Kd.R_tight rfl HO0.out); rintro e w5 ⟨rfl, hi, hy0, hb, hkp⟩; refine ⟨_, rfl, ?_⟩; replace HI1 := Aside0.mk (hi); replace HK := Aside0.mk (Kept.then_ (S := (fun k_ => (P0_ k_) ∨ k_ = g)) pbb5_5 hkp (fun k_ hs_ => Or.elim hs_ (fun hs_ => (fun e_ => Or.imp_left Or.inl ((HO0.out.1 k_ e_.symm))) hs_) (fun e_ => .inl (.inr e_)))); replace HO0 := Aside0.mk (Kd.R_reok rfl hy0 (fun k_ e_ => HO0.out.1 k_ e_)); replace HB := Aside0.mk (hb); (try clear hb); (try clear hkp); (try clear hy0)))
 first | go_end0 | ((try simp only [Exit.inBlock, Exit.then]); refine bodyPost_ret (results_none rfl _ _ _) rfl ?_)
 exact ⟨pbb2_5, by repeat (first | (with_reducible first | exact HI1.out | apply IsS37.alloc | apply IsS37.drewN | apply IsS37.drew) | exact HI1.out), pbb5_3, by repeat (first | (with_reducible first | exact HB.out | apply below_alloc | apply pw_below_drewN | apply below_drew1 | refine below_set ?_ (IsS37.ge HI1.out)) | exact HB.out), pbb5_5⟩
def F68.l0 : Nat → List Int → Int → Int → List Int → Option (List Int)
  | 0, _, _, _, _ => none
  | k + 1, x3, x10, x11, x103000 => if x11 < x10 then (if 0 ≤ x11 then (if x11 < (x3.length : Int) then (F68.l0 k (x3.set (x11 : Int).toNat x11) x10 (wrap64 (x11 + 1)) x103000) else (none)) else (none)) else (if 0 ≤ (x3.length : Int) then (if ((x3.length : Int) : Int).toNat ≤ 35184372088832 then ((pw_copy_37.f (List.replicate ((x3.length : Int) : Int).toNat 0) x3).bind fun bt110 => ((F80.f k bt110.2 x103000).bind fun t112 => (some t112))) else (none)) else (none))
def F68.f (k : Nat) (l0 : List Int) : Option (List Int) := if 0 ≤ (l0.length : Int) then (if ((l0.length : Int) : Int).toNat ≤ 35184372088832 then ((some (List.replicate ((l0.length : Int) : Int).toNat 0 : List Int)).bind fun y103 => (F68.l0 k y103 (y103.length : Int) 0 l0)) else (none)) else (none)
set_option maxHeartbeats 8000000 in
set_option maxRecDepth 100000 in
theorem F68.calls (k : Nat) (A0 : Option Addr) (c0 : Nat) (l0 : List Int) (r : List Int) (w : World) (hr0 : Kd.C (Kd.int .i64) w A0 l0.length l0) (hc0 : l0.length ≤ c0) (h : F68.f k l0 = some r) :
    Calls Tryd.prog 68 #[.slice A0 l0.length c0] w fun e w' => ∃ v0_ : Value, e = .returned (v0_) ∧ Kd.R (Kd.int .i64) 3 w' w.heap.size (fun _ => True) v0_ r ∧ Below w.heap.size w w' := by
 have hu37 := Tryd.underlying37; have hu3 := Tryd.underlying3; have HR0 := Aside0.mk hr0; have HC0 := Aside0.mk hc0; clear hr0 hc0; have HB := Aside0.mk (Below.refl w.heap.size w)
 unfold F68.f at h
 have H := h; clear h
 by_cases c2 : 0 ≤ (l0.length : Int)
 ·rw [if_pos c2] at H; have c2b0 := eq_true c2; have c2b1 := decide_eq_true c2; clear c2
  by_cases c3 : ((l0.length : Int) : Int).toNat ≤ 35184372088832
  ·rw [if_pos c3] at H; have c3b0 := eq_true c3; have c3b1 := decide_eq_true c3; clear c3; obtain ⟨y103, hy103⟩ : ∃ y_ : List Int, y_ = (List.replicate ((l0.length : Int) : Int).toNat 0) := ⟨_, rfl⟩; replace H : (F68.l0 k y103 (y103.length : Int) 0 l0) = some r := by first | (rw [hy103]; with_reducible exact H) | (have H2_ := (Option.bind_some _ _).symm.trans H; rw [hy103]; with_reducible exact H2_) | (have H2_ := (Option.bind_some _ _).symm.trans H; with_reducible exact H2_) | with_reducible exact H | (rw [hy103]; exact H) | exact H
   have Ny103 := Aside0.mk hy103; clear hy103; have H' := Aside0.mk H; clear H; go_enter Tryd.func68, Tryd.ntmps68
   go_wp2_with (first | ((with_reducible refine gate_dst (N := 1) rfl ?_); refine box_event ?hg (N := 1) ?hd (cs := #[.slice A0 l0.length c0]) (t := 37) ?hr ?_; (case hd => rfl); (case hg => rfl); (case hr => first | (go_simp; done) | (go_simp; rfl)); intro gb102 hg w4 hbox hb; have HI102 := Aside0.mk ((show IsS37 w w4 gb102 l0 from ⟨_, _, hbox, (pbb2_6 : w.heap.size ≤ gb102), HR0.out⟩)); have GW102 := Aside0.mk ((pbb2_6 : w.heap.size ≤ gb102)); have GE102 := Aside0.mk ((pbb2_6 : w.heap.size ≤ gb102)); replace HB := Aside0.mk (below_step pbb2_3 hb); clear hb hbox hg; obtain ⟨ASz5_0, cSz5_0, HGz5, hgz5, HSz5_0⟩ := HI102.out; have hcz5_0 := cellS37_0 HGz5; clear HGz5 hgz5) | ((with_reducible refine gate_dst (N := 8) rfl ?_); refine Kd.R_make (Kd.int .i64) _ 3 rfl (N := 8) rfl 37 _ _ rfl (l0.length : Int) rfl rfl Tryd.underlying37 (.int .i64 0) 8 info3 rfl (by decide) (by omega) 0 (ok := fun _ => True) (okp := fun _ => True) rfl (fun _ hk => hk) trivial (of_decide_eq_true pbb2_4) (Nat.le_trans (Nat.mul_le_mul_right _ (of_decide_eq_true pbb2_4 : (l0.length : Int).toNat ≤ 35184372088832)) (by omega)) (Below.refl _ _) (Nat.le_refl _) ?_; intro v104 w6 ho7 hb hg_ hnew_; clear hg_ hnew_; (first | rw [← Ny103.out] at ho7 | (simp only [Int.reduceToNat] at ho7; rw [← Ny103.out] at ho7)); have HO105 := Aside0.mk (Kd.R_lower ho7 (below_size pbb6_4)); replace HB := Aside0.mk (below_step pbb6_4 hb); replace HI102 := Aside0.mk (IsS37.below pbb6_5 hb); clear hb ho7; obtain ⟨Ao8, co8, eo8⟩ := Kd.R_slice HO105.out; subst eo8))
   go_loopg [11] k (fun kq v11 w' => ∃ (x3_1 : List Int) (x11_1 : Int), v11 = .int .i64 x11_1 ∧ Aside0 (F68.l0 kq x3_1 (y103.length : Int) x11_1 l0 = some r) ∧ Aside0 (kq ≤ k) ∧ Aside0 (Kd.R (Kd.int .i64) 3 w' w.heap.size (fun _ => True) (.slice Ao8 y103.length co8) x3_1) ∧ Aside0 (IsS37 w w' gb102 l0) ∧ Aside0 (Below w.heap.size w w'))
   case atStart => exact ⟨(y103), (0), pbb2_0, H', ⟨Nat.le_refl _⟩, ⟨by (with_reducible repeat (first | apply Kd.R_alloc | apply Kd.R_drewN | apply Kd.R_drew)); exact HO105.out⟩, ⟨pbb6_5⟩, ⟨pbb6_4⟩⟩
   case round =>
    clear H'; obtain ⟨x3_1, x11_1, rfl, HA, HK1, HO_3, HI102, HB⟩ := hrel; have hl3_1 := (Kd.R_reads' HO_3.out).1; rw [hl3_1] at HO_3; (try simp only [hl3_1])
    cases gk with
    | zero => exact absurd HA.out (by simp [F68.l0])
    | succ k1 =>
     have H := HA.out; clear HA; simp only [F68.l0] at H
     by_cases c9 : x11_1 < (y103.length : Int)
     ·rw [if_pos c9] at H; have c9b0 := decide_eq_true c9; (try (have c9b0hl3_1 := c9b0; simp only [hl3_1] at c9b0hl3_1)); clear c9
      by_cases c10 : 0 ≤ x11_1
      ·rw [if_pos c10] at H; have c10b0 := decide_eq_true c10; clear c10
       by_cases c11 : x11_1 < (x3_1.length : Int)
       ·rw [if_pos c11] at H; have c11b0 := decide_eq_true c11; (try (have c11b0hl3_1 := c11b0; simp only [hl3_1] at c11b0hl3_1)); clear c11; obtain ⟨y106, hy106⟩ : ∃ y_ : List Int, y_ = (x3_1.set (x11_1 : Int).toNat x11_1) := ⟨_, rfl⟩; replace H : (F68.l0 k1 y106 (y103.length : Int) (wrap64 (x11_1 + 1)) l0) = some r := by first | (rw [hy106]; with_reducible exact H) | (have H2_ := (Option.bind_some _ _).symm.trans H; rw [hy106]; with_reducible exact H2_) | (have H2_ := (Option.bind_some _ _).symm.trans H; with_reducible exact H2_) | with_reducible exact H | (rw [hy106]; exact H) | exact H
        have Ny106 := Aside0.mk hy106; clear hy106; have H' := Aside0.mk H; clear H; have p12 : 0 ≤ (x11_1 : Int) := of_decide_eq_true pbb2_4; have q12 : (x11_1 : Int) < ((x3_1.length : Int) : Int) := of_decide_eq_true pbb2_4; obtain ⟨go12, co12, eo12, gb12, gl12, cl12, HG12⟩ := Kd.R_form HO_3.out (by omega); (first | cases eo12 | (injection eo12 with ea_ en_ ec_; (first | subst ea_ | (injection ea_ with ea_; subst ea_)); subst ec_; clear en_)); have GB12 := Aside0.mk gb12; have GG12 := Aside0.mk HG12; clear gb12 gl12 HG12; obtain ⟨hx12_0, hf12_0⟩ := Kd.R_celln 0 HO_3.out (x11_1 : Int) p12 q12; replace p12 := eq_true p12; replace q12 := eq_true q12; have HP13 := Kd.R_putg HO_3.out (x11_1 : Int) x11_1
        go_wp2_with (first | ((with_reducible refine gate_store (t := 3) (p := 17) rfl ?_); refine store_event (t := 3) (p := 17) (v := ?vo_w14) (w1 := (wr.setCell ⟨go12, (x11_1 : Int).toNat, none⟩ (.int .i64 x11_1))) ?hg ?ho ?hn ?hr ?_; (case ho => rfl); (case hg => rfl); (case hn => rfl); (case hr => first | (go_simp; done) | (go_simp; rfl)); intro w14 hw; have hg : wr.grownBy w14 (some go12) := (by rw [hw]; exact HP13.2); have hp_ : Kd.R (Kd.int .i64) 3 w14 w.heap.size (fun _ => True) (.slice (some ⟨go12, 0, none⟩) x3_1.length co8) y106 := (by rw [hw, Ny106.out]; exact HP13.1); clear HP13; replace HI102 := Aside0.mk (IsS37.grown pbb6_5 hg (IsS37.own_ne HI102.out HO_3.out (by decide))); replace HO_3 := Aside0.mk (hp_); replace HB := Aside0.mk ((by rw [hw]; exact below_set (HB.out) GB12.out : Below w.heap.size w w14)); clear hg hw hp_))
        (try simp only [← hl3_1])
        go_roundg k1
        case measure => have := HK1.out; omega
        case rel => exact ⟨(y106), (wrap64 (x11_1 + 1)), pbb2_0, H', ⟨pbb6_1⟩, ⟨by (try simp only [hl3_1]); (with_reducible repeat (first | apply Kd.R_alloc | apply Kd.R_drewN | apply Kd.R_drew)); exact HO_3.out⟩, ⟨pbb6_5⟩, ⟨pbb6_4⟩⟩
       ·rw [if_neg c11] at H; exact absurd H (by simp)
      ·rw [if_neg c10] at H; exact absurd H (by simp)
     ·rw [if_neg c9] at H; have c9b0 := decide_eq_false c9; (try (have c9b0hl3_1 := c9b0; simp only [hl3_1] at c9b0hl3_1)); clear c9
      by_cases c15 : 0 ≤ (x3_1.length : Int)
      ·rw [if_pos c15] at H; have c15b0 := eq_true c15; have c15b1 := decide_eq_true c15; (try (have c15b1hl3_1 := c15b1; simp only [hl3_1] at c15b1hl3_1)); clear c15
       by_cases c16 : ((x3_1.length : Int) : Int).toNat ≤ 35184372088832
       ·rw [if_pos c16] at H; have c16b0 := eq_true c16; have c16b1 := decide_eq_true c16; (try (have c16b1hl3_1 := c16b1; simp only [hl3_1] at c16b1hl3_1)); clear c16; obtain ⟨y107, hy107⟩ : ∃ y_ : List Int, y_ = (List.replicate ((x3_1.length : Int) : Int).toNat 0) := ⟨_, rfl⟩; replace H : ((pw_copy_37.f y107 x3_1).bind fun bt110 => ((F80.f k1 bt110.2 l0).bind fun t112 => (some t112))) = some r := by first | (rw [hy107]; with_reducible exact H) | (have H2_ := (Option.bind_some _ _).symm.trans H; rw [hy107]; with_reducible exact H2_) | (have H2_ := (Option.bind_some _ _).symm.trans H; with_reducible exact H2_) | with_reducible exact H | (rw [hy107]; exact H) | exact H
        have Ny107 := Aside0.mk hy107; clear hy107; obtain ⟨⟨t110, t111⟩, A170, H⟩ := bnd H; (try dsimp only at H); have A17 := Aside0.mk A170; clear A170; obtain ⟨t112, A180, H⟩ := bnd H; have A18 := Aside0.mk A180; clear A180; obtain rfl := Option.some.inj H
        go_wp2_with (first | ((with_reducible refine gate_dst (N := 21) rfl ?_); refine Kd.R_make (Kd.int .i64) _ 3 rfl (N := 21) rfl 37 _ _ rfl (x3_1.length : Int) rfl rfl Tryd.underlying37 (.int .i64 0) 8 info3 rfl (by decide) (by omega) 0 (ok := fun _ => True) (okp := fun _ => True) rfl (fun _ hk => hk) trivial (of_decide_eq_true pbb2_4) (Nat.le_trans (Nat.mul_le_mul_right _ (of_decide_eq_true pbb2_4 : (x3_1.length : Int).toNat ≤ 35184372088832)) (by omega)) (Below.refl _ _) (Nat.le_refl _) ?_; intro v108 w19 ho20 hb hg_ hnew_; clear hg_ hnew_; (first | rw [← Ny107.out] at ho20 | (simp only [Int.reduceToNat] at ho20; rw [← Ny107.out] at ho20)); have HO109 := Aside0.mk (Kd.R_lower (Kd.R_new' ho20 (Kd.R_lt (by (with_reducible repeat (first | apply Kd.R_alloc | apply Kd.R_drewN | apply Kd.R_drew)); exact HO_3.out))) (below_size pbb6_4)); replace HO_3 := Aside0.mk (Kd.R_elder' (by (with_reducible repeat (first | apply Kd.R_alloc | apply Kd.R_drewN | apply Kd.R_drew)); exact HO_3.out) (Kd.R_base ho20) hb); replace HB := Aside0.mk (below_step pbb6_4 hb); replace HI102 := Aside0.mk (IsS37.below pbb6_5 hb); clear hb ho20; obtain ⟨Ao21, co21, eo21⟩ := Kd.R_slice HO109.out; subst eo21) | (refine copyL_ (some 24) rfl rfl rfl #[.slice Ao21 y107.length co21, .slice Ao8 x3_1.length co8] (by first | rfl | (simp only [List.length_drop, List.length_take]; rfl)) ?_; (with_reducible refine (pw_copy_37.calls (fun k_ => some k_ = (.slice Ao21 y107.length co21 : Value).ownBlock) (.slice Ao21 y107.length co21) y107 _ _ x3_1 t110 t111 w _ ?side1 ?side2 ?side3 ?side4 A17.out).mono ?_); (case side1 => repeat (first | (with_reducible first | exact HB.out | apply below_alloc | apply pw_below_drewN | apply below_drew1 | refine below_set ?_ (IsS37.ge HI102.out)) | exact HB.out)); (case side2 => exact Kd.R_tight rfl HO109.out); (case side3 => exact Kd.C_kept_own (HO_3.out) (fun k_ hk_ hs_ => (hk_.2) hs_)); (case side4 => exact (Kd.R_reads' HO_3.out).2.1); rintro e w22 ⟨rfl, hy0, hb, hkp⟩; refine ⟨_, rfl, ?_⟩; replace HO_3 := Aside0.mk (Kd.R_mono (ok' := fun k_ => some k_ ≠ (.slice Ao21 y107.length co21 : Value).ownBlock) (Kd.R_keptB (HO_3.out) hkp (fun k_ hk_ hs_ => (hk_.2) hs_)) (fun k_ hk_ => hk_.1.2)); replace HI102 := Aside0.mk (IsS37.kept pbb6_5 hkp (fun hs_ => (fun e_ => (IsS37.own_ne HI102.out HO109.out (by decide)) e_) hs_)); replace HO109 := Aside0.mk (Kd.R_reok rfl hy0 (fun k_ e_ => HO109.out.1 k_ e_)); replace HB := Aside0.mk (hb); (try clear hb); (try clear hkp); (try clear hy0)) | ((with_reducible refine gate_callee (f := 80) rfl ?_); refine goesL_ (some 27) rfl rfl Tryd.func80 (by kernel_rfl) rfl #[.slice Ao21 y107.length co21, .func (.func 81) #[] #[.pointer (some ⟨gb102, 0, none⟩)]] rfl pbb2_2 ?_; (with_reducible refine (F80.calls k1 (fun k_ => some k_ = (.slice Ao21 y107.length co21 : Value).ownBlock) (.slice Ao21 y107.length co21) t111 gb102 l0 t112 w _ ?side1 ?side2 ?side3 A18.out).mono ?_); (case side1 => repeat (first | (with_reducible first | exact HI102.out | apply IsS37.alloc | apply IsS37.drewN | apply IsS37.drew) | exact HI102.out)); (case side2 => repeat (first | (with_reducible first | exact HB.out | apply below_alloc | apply pw_below_drewN | apply below_drew1 | refine below_set ?_ (IsS37.ge HI102.out)) | exact HB.out)); (case side3 => exact Kd.R_tight rfl HO109.out); rintro e w23 ⟨rfl, hi, hy0, hb, hkp⟩; refine ⟨_, rfl, ?_⟩; replace HO_3 := Aside0.mk (Kd.R_mono (ok' := fun k_ => some k_ ≠ (.slice Ao21 y107.length co21 : Value).ownBlock) (Kd.R_keptB ((IsS37.apart HI102.out HO_3.out (by decide))) hkp (fun k_ hk_ hs_ => Or.elim hs_ (fun hs_ => (hk_.1) hs_) (fun e_ => (hk_.2) e_))) (fun k_ hk_ => hk_.1.1)); replace HI102 := Aside0.mk (hi); replace HO109 := Aside0.mk (Kd.R_reok rfl hy0 (fun k_ e_ => HO109.out.1 k_ e_)); replace HB := Aside0.mk (hb); (try clear hb); (try clear hkp); (try clear hy0)))
        go_ret
        exact ⟨_, pbb2_5, by (with_reducible repeat (first | apply Kd.R_alloc | apply Kd.R_drewN | apply Kd.R_drew)); exact Kd.R_mono HO109.out (fun _ hk => trivial), pbb6_4⟩
       ·rw [if_neg c16] at H; exact absurd H (by simp)
      ·rw [if_neg c15] at H; exact absurd H (by simp)
  ·rw [if_neg c3] at H; exact absurd H (by simp)
 ·rw [if_neg c2] at H; exact absurd H (by simp)
end Go.Proofs.YtegpappenmhndaaDoor.M
end
