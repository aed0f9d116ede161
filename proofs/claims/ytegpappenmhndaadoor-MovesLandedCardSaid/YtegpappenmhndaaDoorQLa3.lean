/- The law of the movements, walked and shown. Part 3 of 4 of what is the claim's own. -/
import Derived.Test.YtegpappenmhndaaDoorQBB1
import Derived.Test.YtegpappenmhndaaDoorQBB2
import Derived.Test.YtegpappenmhndaaDoorQLa1
import Derived.Test.YtegpappenmhndaaDoorQLa2
import Derived.Test.YtegpappenmhndaaDoorQBB8
import Derived.Test.YtegpappenmhndaaDoorQBB7
import Derived.SizedLaws
import Derived.ChangeArms
import Derived.ChangeShapes
import Derived.DataReads
import Derived.Test.YtegpappenmhndaaDoorQBB3
import Derived.Test.YtegpappenmhndaaDoorQBB6
namespace Go.Proofs.YtegpappenmhndaaDoor.M
theorem pla3_0 {p : Prop} (h : p := by (with_reducible repeat (first | apply Kd.R_alloc | apply Kd.R_drewN | apply Kd.R_drew)); exact HO_19.out) : p := h
theorem pla3_1 {p : Prop} (h : p := by (with_reducible repeat (first | apply Kd.R_alloc | apply Kd.R_drewN | apply Kd.R_drew)); exact HO_17.out) : p := h
theorem pla3_2 {p : Prop} (h : p := by (with_reducible repeat (first | apply Kd.R_alloc | apply Kd.R_drewN | apply Kd.R_drew)); exact HO107.out) : p := h
theorem pla3_3 {p : Prop} (h : p := by simp only [List.length_append]; omega) : p := h
theorem pla3_4 {p : Prop} (h : p := by rw [List.length_append]; omega) : p := h
end Go.Proofs.YtegpappenmhndaaDoor.M
section
namespace Go.Proofs.YtegpappenmhndaaDoor.M
open Go.RowKit Go.Proofs.YtegpappenmhndaaDoorW.PrintWords Go.Proofs.YtegpappenmhndaaDoorW.PrintLast Go.Proofs.YtegpappenmhndaaDoorW.PrintMore
attribute [local go_sem] max2_int min2_int max_two min_two max_three min_three max_four min_four
set_option linter.unusedVariables false
set_option linter.unusedSimpArgs false
mutual
def F23.l0 : Nat → List (S23) → List Int → Int → Bool → Int → List Int → Int → Option ((List (S23)) × Int)
  | 0, _, _, _, _, _, _, _ => none
  | k + 1, x0, x1, x2, x3, x4, x15, x16 => if x16 < (x1.length : Int) then (if x3 = true then (if 0 ≤ x16 then (if 0 ≤ (wrap64 ((rd x1 x16) - 1)) then (if (wrap64 ((rd x1 x16) - 1)) < (x0.length : Int) then (if x15.length < 17592186044416 then (F23.l0 k x0 x1 x2 x3 x4 (x15 ++ [(rd_T23 x0 (wrap64 ((rd x1 x16) - 1))).f5]) (wrap64 (x16 + 1))) else (none)) else (none)) else (none)) else (none)) else (if 0 ≤ x16 then (if 0 ≤ (wrap64 ((rd x1 x16) - 1)) then (if (wrap64 ((rd x1 x16) - 1)) < (x0.length : Int) then (if x15.length < 17592186044416 then (F23.l0 k x0 x1 x2 x3 x4 (x15 ++ [(rd_T23 x0 (wrap64 ((rd x1 x16) - 1))).f4]) (wrap64 (x16 + 1))) else (none)) else (none)) else (none)) else (none))) else ((F46.f k x2 x15).bind fun bt115 => (if bt115.2 = 0 then (F23.l1 k x0 x1 x4 bt115.1 ([] : List (S23)) 0) else (some (([] : List (S23)), bt115.2))))
def F23.l1 : Nat → List (S23) → List Int → Int → List Int → List (S23) → Int → Option ((List (S23)) × Int)
  | 0, _, _, _, _, _, _ => none
  | k + 1, x0, x1, x4, x17, x19, x20 => if x20 < (x17.length : Int) then (if 0 ≤ x20 then (if (rd x17 x20) > 1000000000000 then (some (([] : List (S23)), 4)) else (if (rd x17 x20) > 0 then (if x20 < (x1.length : Int) then (if 0 ≤ (wrap64 ((rd x1 x20) - 1)) then (if (wrap64 ((rd x1 x20) - 1)) < (x0.length : Int) then (if x19.length < 1759218604441 then (F23.l1 k x0 x1 x4 x17 (x19 ++ [(⟨wrap64 ((wrap64 ((x0.length : Int) + 1)) + (x19.length : Int)), x4, (rd_T23 x0 (wrap64 ((rd x1 x20) - 1))).f2, 5, 0, rd x17 x20, (⟨#[]⟩ : ByteArray), rd x1 x20⟩ : S23)]) (wrap64 (x20 + 1))) else (none)) else (none)) else (none)) else (none)) else (F23.l1 k x0 x1 x4 x17 x19 (wrap64 (x20 + 1))))) else (none)) else (some (x19, 0))
end
def F23.f (k : Nat) (l0 : List (S23)) (l1 : List Int) (a2 : Int) (a3 : Bool) (a4 : Int) : Option ((List (S23)) × Int) := (F15.f k l0).bind fun bt101 => (if bt101.2 = 0 then ((F32.f a4).bind fun t103 => (if t103 = true then (if a2 < 1 then (some (([] : List (S23)), 2)) else ((F45.f k l0 l1 a4).bind fun t104 => (if t104 = 0 then (F23.l0 k l0 l1 a2 a3 a4 ([] : List Int) 0) else (some (([] : List (S23)), t104))))) else (some (([] : List (S23)), 11)))) else (some (([] : List (S23)), bt101.2)))
def F23.T28 : Bool × List (List Nat × List Nat) := (true, [([], []), ([], []), ([1], [1]), ([2], [2]), ([], []), ([4], [4]), ([3, 5], [3, 5]), ([], []), ([], []), ([], []), ([], []), ([9, 10], [9, 10]), ([11], [11]), ([12], [12]), ([8, 13], [8, 13]), ([14], [14]), ([15], [15]), ([], []), ([], []), ([17, 18], [17, 18]), ([19], [19]), ([], []), ([], []), ([21, 22], [21, 22]), ([23], [23]), ([6, 7, 16, 20, 24], [6, 7, 16, 20, 24]), ([25], [25]), ([0, 26], [0, 26]), ([27, 27, 0, 1, 2, 3, 4, 5, 6, 7, 8, 9, 10, 11, 12, 13, 14, 15, 16, 17, 18, 19, 20, 21, 22, 23, 24, 25, 26, 27], [0, 4, 27])])
def F23.B28 : List Nat := [0, 0, 2, 6, 0, 16, 62, 0, 0, 0, 0, 1536, 3584, 7680, 16128, 32512, 65280, 0, 0, 393216, 917504, 0, 0, 6291456, 14680064, 33554430, 67108862, 134217727, 268435455]
theorem F23.tab28 : rtab .any (opsOf Tryd.f23 28) = F23.T28 := by kernel_rfl
theorem F23.bits28 : waitsOk F23.T28.2 F23.B28 = true := by kernel_rfl
set_option maxHeartbeats 8000000 in
set_option maxRecDepth 100000 in
theorem F23.calls (k : Nat) (A0 : Option Addr) (c0 : Nat) (l0 : List (S23)) (A1 : Option Addr) (c1 : Nat) (l1 : List Int) (a2 : Int) (a3 : Bool) (a4 : Int) (r1 : List (S23)) (r2 : Int) (w : World) (hr0 : Kd.C k23 w A0 l0.length l0) (hc0 : l0.length ≤ c0) (hr1 : Kd.C (Kd.int .i64) w A1 l1.length l1) (hc1 : l1.length ≤ c1) (h : F23.f k l0 l1 a2 a3 a4 = some (r1, r2)) :
    Calls Tryd.prog 23 #[.slice A0 l0.length c0, .slice A1 l1.length c1, .int .i64 a2, .bool a3, .int .i64 a4] w fun e w' => ∃ v0_ : Value, e = .returned (.tuple #[v0_, .int .i64 r2]) ∧ Kd.R k23 23 w' w.heap.size (fun _ => True) v0_ r1 ∧ Below w.heap.size w w' := by
 have hu3 := Tryd.underlying3; have hu9 := Tryd.underlying9; have hu23 := Tryd.underlying23; have HR0 := Aside0.mk hr0; have HC0 := Aside0.mk hc0; clear hr0 hc0; have HR1 := Aside0.mk hr1; have HC1 := Aside0.mk hc1; clear hr1 hc1; have HB := Aside0.mk (Below.refl w.heap.size w)
 unfold F23.f at h
 have H := h; clear h; obtain ⟨⟨t101, t102⟩, A60, H⟩ := bnd H; (try dsimp only at H); have A6 := Aside0.mk A60; clear A60
 by_cases c7 : t102 = 0
 ·rw [if_pos c7] at H; have c7b0 := bT_ c7; have c7b1 := bF_ c7; clear c7; obtain ⟨t103, A80, H⟩ := bnd H; have A8 := Aside0.mk A80; clear A80
  by_cases c9 : t103 = true
  ·subst c9; rw [if_pos rfl] at H
   by_cases c10 : a2 < 1
   ·rw [if_pos c10] at H; have c10b0 := decide_eq_true c10; clear c10; simp only [Option.some.injEq, Prod.mk.injEq] at H; obtain ⟨rfl, rfl⟩ := H; go_enter Tryd.func23, Tryd.ntmps23
    go_wp2_with (first | ((with_reducible refine gate_callee (f := 15) rfl ?_); refine goesL_ (some 23) rfl rfl Tryd.func15 (by kernel_rfl) rfl #[.slice A0 l0.length c0] rfl pbb2_2 ?_; (with_reducible refine (F15.calls k _ _ l0 t101 t102 _ pbb3_6 HC0.out A6.out).mono ?_); rintro e w11 ⟨rfl, hb⟩; refine ⟨_, rfl, ?_⟩; replace HB := Aside0.mk (below_step pbb2_3 hb); (try clear hb); (try clear hb2); (try clear hk); (try clear hi)) | ((with_reducible refine gate_callee (f := 32) rfl ?_); refine goesL_ (some 30) rfl rfl Tryd.func32 (by kernel_rfl) rfl #[.int .i64 a4] rfl pbb2_2 ?_; (with_reducible refine (F32.calls a4 true _ A8.out).mono ?_); rintro e w' ⟨rfl, ⟨nd, rfl⟩⟩; refine ⟨_, rfl, ?_⟩))
    go_ret2
    exact ⟨_, pbb2_5, pbb3_0, pbb2_3⟩
   ·rw [if_neg c10] at H; have c10b0 := decide_eq_false c10; clear c10; obtain ⟨t104, A120, H⟩ := bnd H; have A12 := Aside0.mk A120; clear A120
    by_cases c13 : t104 = 0
    ·rw [if_pos c13] at H; have c13b0 := bT_ c13; have c13b1 := bF_ c13; clear c13; have H' := Aside0.mk H; clear H; go_enter Tryd.func23, Tryd.ntmps23
     go_wp2_with (first | ((with_reducible refine gate_callee (f := 15) rfl ?_); refine goesL_ (some 23) rfl rfl Tryd.func15 (by kernel_rfl) rfl #[.slice A0 l0.length c0] rfl pbb2_2 ?_; (with_reducible refine (F15.calls k _ _ l0 t101 t102 _ pbb3_6 HC0.out A6.out).mono ?_); rintro e w14 ⟨rfl, hb⟩; refine ⟨_, rfl, ?_⟩; replace HB := Aside0.mk (below_step pbb2_3 hb); (try clear hb); (try clear hb2); (try clear hk); (try clear hi)) | ((with_reducible refine gate_callee (f := 32) rfl ?_); refine goesL_ (some 30) rfl rfl Tryd.func32 (by kernel_rfl) rfl #[.int .i64 a4] rfl pbb2_2 ?_; (with_reducible refine (F32.calls a4 true _ A8.out).mono ?_); rintro e w' ⟨rfl, ⟨nd, rfl⟩⟩; refine ⟨_, rfl, ?_⟩) | ((with_reducible refine gate_callee (f := 45) rfl ?_); refine goesL_ (some 37) rfl rfl Tryd.func45 (by kernel_rfl) rfl #[.slice A0 l0.length c0, .slice A1 l1.length c1, .int .i64 a4] rfl pbb2_2 ?_; (with_reducible refine (F45.calls k _ _ l0 _ _ l1 a4 t104 _ (by repeat (first | exact (Kd.C_below HR0.out pbb2_3) | (with_reducible refine Kd.C_alloc ?_ _) | (with_reducible refine Kd.C_drewN ?_ _) | (with_reducible refine Kd.C_drew ?_))) HC0.out (by repeat (first | exact (Kd.C_below HR1.out pbb2_3) | (with_reducible refine Kd.C_alloc ?_ _) | (with_reducible refine Kd.C_drewN ?_ _) | (with_reducible refine Kd.C_drew ?_))) HC1.out A12.out).mono ?_); rintro e w' ⟨rfl, ⟨nd, rfl⟩⟩; refine ⟨_, rfl, ?_⟩))
     (try simp only [Act.put, List.setIfInBounds_toArray, List.set_cons_zero, List.set_cons_succ])
     go_loopg [15, 16] k (fun kq v15 v16 w' => ∃ (x15_1 : List Int) (x16_1 : Int), v16 = .int .i64 x16_1 ∧ Aside0 (F23.l0 kq l0 l1 a2 a3 a4 x15_1 x16_1 = some (r1, r2)) ∧ Aside0 (kq ≤ k) ∧ Aside0 (Kd.R (Kd.int .i64) 3 w' w.heap.size (fun _ => True) v15 x15_1) ∧ Aside0 (Below w.heap.size w w'))
     case atStart => exact ⟨(([] : List Int)), (0), pbb2_0, H', ⟨Nat.le_refl _⟩, ⟨pbb3_0⟩, ⟨pbb2_3⟩⟩
     case round =>
      clear H'; obtain ⟨x15_1, x16_1, rfl, HA, HK1, HO_15, HB⟩ := hrel
      cases gk with
      | zero => exact absurd HA.out (by simp [F23.l0])
      | succ k1 =>
       have H := HA.out; clear HA; simp only [F23.l0] at H
       by_cases c15 : x16_1 < (l1.length : Int)
       ·rw [if_pos c15] at H; have c15b0 := decide_eq_true c15; clear c15
        by_cases c16 : a3 = true
        ·subst c16; rw [if_pos rfl] at H
         by_cases c17 : 0 ≤ x16_1
         ·rw [if_pos c17] at H; have c17b0 := decide_eq_true c17; clear c17; obtain ⟨ji18, hji18⟩ : ∃ j_ : Int, (wrap64 ((rd l1 x16_1) - 1)) = j_ := ⟨_, rfl⟩; (first | rw [hji18] at H | simp only [hji18] at H); have hji18w : (IntKind.i64.wrap ((rd l1 x16_1) - 1)) = ji18 := (i64_w _).trans hji18
          by_cases c19 : 0 ≤ (ji18)
          ·rw [if_pos c19] at H; have c19b0 := decide_eq_true c19; clear c19
           by_cases c20 : (ji18) < (l0.length : Int)
           ·rw [if_pos c20] at H; have c20b0 := decide_eq_true c20; clear c20
            by_cases c21 : x15_1.length < 17592186044416
            ·rw [if_pos c21] at H; have LMc21 := Aside0.mk c21; clear c21; obtain ⟨y107, hy107⟩ : ∃ y_ : List Int, y_ = (x15_1 ++ [(rd_T23 l0 (ji18)).f5]) := ⟨_, rfl⟩; replace H : (F23.l0 k1 l0 l1 a2 true a4 y107 (wrap64 (x16_1 + 1))) = some (r1, r2) := by first | (rw [hy107]; with_reducible exact H) | (have H2_ := (Option.bind_some _ _).symm.trans H; rw [hy107]; with_reducible exact H2_) | (have H2_ := (Option.bind_some _ _).symm.trans H; with_reducible exact H2_) | with_reducible exact H | (rw [hy107]; exact H) | exact H
             have Ny107 := Aside0.mk hy107; clear hy107; have H' := Aside0.mk H; clear H; have p105 : 0 ≤ (x16_1 : Int) := of_decide_eq_true pbb2_4; have q105 : x16_1 < (l1.length : Int) := of_decide_eq_true pbb2_4; obtain ⟨ad105, e105, hx105_0⟩ := Kd.at_int HR1.out x16_1 p105 q105
             cases e105
             replace hx105_0 := (HB.out.cell (World.block_lt_of_cell? w _ hx105_0)).trans hx105_0; replace p105 := eq_true p105; replace q105 := eq_true q105; have p106 : 0 ≤ ((ji18) : Int) := of_decide_eq_true pbb2_4; have q106 : (ji18) < (l0.length : Int) := of_decide_eq_true pbb2_4; obtain ⟨ad106, e106, hx106_0, hx106_1, hx106_2, hx106_3, hx106_4, hx106_5, hx106_6, hx106_7⟩ := up8 HB.out (at_T23 HR0.out (ji18) p106 q106)
             cases e106
             replace p106 := eq_true p106; replace q106 := eq_true q106
             go_wp2_with (first | ((with_reducible refine gate_builtin (b := .append) (xs := #[.tmp 48, .tmp 58]) rfl ?_); at_builtin; refine Kd.R_append (Kd.int .i64) (w0 := w) w.heap.size rfl (.tmp 48) (.tmp 58) 37 3 (.int .i64 0) 8 rfl Tryd.underlying37 info3 rfl (by decide) (by omega) u15 x15_1 ((rd_T23 l0 (ji18)).f5) [.int .i64 ((rd_T23 l0 (ji18)).f5)] (fun _ => True) (fun _ => False) rfl rfl ?aP (fun _ hk => hk.elim) ?aF ?aO ?aB ?aS ?aL ?_; (case aP => exact rfl); (case aB => exact pbb2_3); (case aF => exact (fun _ _ => trivial)); (case aO => exact pbb7_6); (case aS => exact (below_size pbb2_3)); (case aL => have := LMc21.out; omega); intro v108 w22 ho hb hg hat; rw [← Ny107.out] at ho; replace HB := Aside0.mk (hb); have HO109 := Aside0.mk (ho); clear HO_15; clear ho hb hg hat))
             go_roundg k1
             case measure => have := HK1.out; omega
             case rel => exact ⟨(y107), (wrap64 (x16_1 + 1)), pbb2_0, H', ⟨pbb6_1⟩, ⟨by (with_reducible repeat (first | apply Kd.R_alloc | apply Kd.R_drewN | apply Kd.R_drew)); exact HO109.out⟩, ⟨pbb2_3⟩⟩
            ·rw [if_neg c21] at H; exact absurd H (by simp)
           ·rw [if_neg c20] at H; exact absurd H (by simp)
          ·rw [if_neg c19] at H; exact absurd H (by simp)
         ·rw [if_neg c17] at H; exact absurd H (by simp)
        ·replace c16 := Bool.eq_false_iff.mpr c16; subst c16; rw [if_neg (show ¬ (false = true) by decide)] at H
         by_cases c23 : 0 ≤ x16_1
         ·rw [if_pos c23] at H; have c23b0 := decide_eq_true c23; clear c23; obtain ⟨ji24, hji24⟩ : ∃ j_ : Int, (wrap64 ((rd l1 x16_1) - 1)) = j_ := ⟨_, rfl⟩; (first | rw [hji24] at H | simp only [hji24] at H); have hji24w : (IntKind.i64.wrap ((rd l1 x16_1) - 1)) = ji24 := (i64_w _).trans hji24
          by_cases c25 : 0 ≤ (ji24)
          ·rw [if_pos c25] at H; have c25b0 := decide_eq_true c25; clear c25
           by_cases c26 : (ji24) < (l0.length : Int)
           ·rw [if_pos c26] at H; have c26b0 := decide_eq_true c26; clear c26
            by_cases c27 : x15_1.length < 17592186044416
            ·rw [if_pos c27] at H; have LMc27 := Aside0.mk c27; clear c27; obtain ⟨y112, hy112⟩ : ∃ y_ : List Int, y_ = (x15_1 ++ [(rd_T23 l0 (ji24)).f4]) := ⟨_, rfl⟩; replace H : (F23.l0 k1 l0 l1 a2 false a4 y112 (wrap64 (x16_1 + 1))) = some (r1, r2) := by first | (rw [hy112]; with_reducible exact H) | (have H2_ := (Option.bind_some _ _).symm.trans H; rw [hy112]; with_reducible exact H2_) | (have H2_ := (Option.bind_some _ _).symm.trans H; with_reducible exact H2_) | with_reducible exact H | (rw [hy112]; exact H) | exact H
             have Ny112 := Aside0.mk hy112; clear hy112; have H' := Aside0.mk H; clear H; have p110 : 0 ≤ (x16_1 : Int) := of_decide_eq_true pbb2_4; have q110 : x16_1 < (l1.length : Int) := of_decide_eq_true pbb2_4; obtain ⟨ad110, e110, hx110_0⟩ := Kd.at_int HR1.out x16_1 p110 q110
             cases e110
             replace hx110_0 := (HB.out.cell (World.block_lt_of_cell? w _ hx110_0)).trans hx110_0; replace p110 := eq_true p110; replace q110 := eq_true q110; have p111 : 0 ≤ ((ji24) : Int) := of_decide_eq_true pbb2_4; have q111 : (ji24) < (l0.length : Int) := of_decide_eq_true pbb2_4; obtain ⟨ad111, e111, hx111_0, hx111_1, hx111_2, hx111_3, hx111_4, hx111_5, hx111_6, hx111_7⟩ := up8 HB.out (at_T23 HR0.out (ji24) p111 q111)
             cases e111
             replace p111 := eq_true p111; replace q111 := eq_true q111
             go_wp2_with (first | ((with_reducible refine gate_builtin (b := .append) (xs := #[.tmp 60, .tmp 70]) rfl ?_); at_builtin; refine Kd.R_append (Kd.int .i64) (w0 := w) w.heap.size rfl (.tmp 60) (.tmp 70) 37 3 (.int .i64 0) 8 rfl Tryd.underlying37 info3 rfl (by decide) (by omega) u15 x15_1 ((rd_T23 l0 (ji24)).f4) [.int .i64 ((rd_T23 l0 (ji24)).f4)] (fun _ => True) (fun _ => False) rfl rfl ?aP (fun _ hk => hk.elim) ?aF ?aO ?aB ?aS ?aL ?_; (case aP => exact rfl); (case aB => exact pbb2_3); (case aF => exact (fun _ _ => trivial)); (case aO => exact pbb7_6); (case aS => exact (below_size pbb2_3)); (case aL => have := LMc27.out; omega); intro v113 w28 ho hb hg hat; rw [← Ny112.out] at ho; replace HB := Aside0.mk (hb); have HO114 := Aside0.mk (ho); clear HO_15; clear ho hb hg hat))
             go_roundg k1
             case measure => have := HK1.out; omega
             case rel => exact ⟨(y112), (wrap64 (x16_1 + 1)), pbb2_0, H', ⟨pbb6_1⟩, ⟨by (with_reducible repeat (first | apply Kd.R_alloc | apply Kd.R_drewN | apply Kd.R_drew)); exact HO114.out⟩, ⟨pbb2_3⟩⟩
            ·rw [if_neg c27] at H; exact absurd H (by simp)
           ·rw [if_neg c26] at H; exact absurd H (by simp)
          ·rw [if_neg c25] at H; exact absurd H (by simp)
         ·rw [if_neg c23] at H; exact absurd H (by simp)
       ·rw [if_neg c15] at H; have c15b0 := decide_eq_false c15; clear c15; obtain ⟨⟨t115, t116⟩, A290, H⟩ := bnd H; (try dsimp only at H); have A29 := Aside0.mk A290; clear A290
        by_cases c30 : t116 = 0
        ·rw [if_pos c30] at H; have c30b0 := bT_ c30; have c30b1 := bF_ c30; clear c30; have H' := Aside0.mk H; clear H; obtain ⟨Ao31, co31, eo31⟩ := Kd.R_slice HO_15.out; subst eo31
         go_wp2_with (first | ((with_reducible refine gate_callee (f := 46) rfl ?_); refine goesL_ (some 75) rfl rfl Tryd.func46 (by kernel_rfl) rfl #[.int .i64 a2, .slice Ao31 x15_1.length co31] rfl pbb2_2 ?_; (with_reducible refine (F46.calls k1 a2 _ _ x15_1 t115 t116 _ (by repeat (first | exact (Kd.R_reads' HO_15.out).2.2 | (with_reducible refine Kd.C_alloc ?_ _) | (with_reducible refine Kd.C_drewN ?_ _) | (with_reducible refine Kd.C_drew ?_))) (by exact (Kd.R_reads' HO_15.out).2.1) A29.out).mono ?_); rintro e w32 ⟨v117, rfl, ho0, hb⟩; refine ⟨_, rfl, ?_⟩; have HO118 := Aside0.mk (Kd.R_lower (Kd.R_new' ho0 (Kd.R_lt pbb7_6)) (below_size pbb2_3)); replace HO_15 := Aside0.mk (Kd.R_elder' pbb7_6 (Kd.R_base ho0) hb); replace HB := Aside0.mk (below_step pbb2_3 hb); (try clear hb); (try clear hb2); (try clear hk); (try clear hi); (try clear ho0)))
         (try simp only [Act.put, List.setIfInBounds_toArray, List.set_cons_zero, List.set_cons_succ])
         go_loopg [19, 20] k1 (fun kq v19 v20 w' => ∃ (x19_2 : List (S23)) (x20_2 : Int), v20 = .int .i64 x20_2 ∧ Aside0 (F23.l1 kq l0 l1 a4 t115 x19_2 x20_2 = some (r1, r2)) ∧ Aside0 (kq ≤ k1) ∧ Aside0 (Kd.R (Kd.int .i64) 3 w' w.heap.size (fun _ => True) v117 t115) ∧ Aside0 (Kd.R k23 23 w' w.heap.size (fun _ => True) v19 x19_2) ∧ Aside0 (Below w.heap.size w w'))
         case atStart => exact ⟨(([] : List (S23))), (0), pbb2_0, H', ⟨Nat.le_refl _⟩, ⟨by (with_reducible repeat (first | apply Kd.R_alloc | apply Kd.R_drewN | apply Kd.R_drew)); exact Kd.R_mono HO118.out (fun _ hk => trivial)⟩, ⟨pbb3_0⟩, ⟨pbb2_3⟩⟩
         case round =>
          clear H'; obtain ⟨x19_2, x20_2, rfl, HA, HK2, HO_17, HO_19, HB⟩ := hrel
          cases gk with
          | zero => exact absurd HA.out (by simp [F23.l1])
          | succ k2 =>
           have H := HA.out; clear HA; simp only [F23.l1] at H
           by_cases c33 : x20_2 < (t115.length : Int)
           ·rw [if_pos c33] at H; have c33b0 := decide_eq_true c33; clear c33
            by_cases c34 : 0 ≤ x20_2
            ·rw [if_pos c34] at H; have c34b0 := decide_eq_true c34; clear c34
             by_cases c35 : (rd t115 x20_2) > 1000000000000
             ·rw [if_pos c35] at H; have c35b0 : decide (1000000000000 < (rd t115 x20_2)) = true := decide_eq_true c35; clear c35; simp only [Option.some.injEq, Prod.mk.injEq] at H; obtain ⟨rfl, rfl⟩ := H; obtain ⟨Ao36, co36, eo36⟩ := Kd.R_slice HO_17.out; subst eo36; have p119 : 0 ≤ (x20_2 : Int) := of_decide_eq_true pbb2_4; have q119 : x20_2 < (t115.length : Int) := of_decide_eq_true pbb2_4; obtain ⟨ad119, e119, hx119_0⟩ := Kd.at_int (Kd.R_reads' HO_17.out).2.2 x20_2 p119 q119
              cases e119
              replace p119 := eq_true p119; replace q119 := eq_true q119
              go_wp2
              go_ret2
              exact ⟨_, pbb2_5, pbb3_0, pbb2_3⟩
             ·rw [if_neg c35] at H; have c35b0 : decide (1000000000000 < (rd t115 x20_2)) = false := decide_eq_false c35; clear c35
              by_cases c37 : (rd t115 x20_2) > 0
              ·rw [if_pos c37] at H; have c37b0 : decide (0 < (rd t115 x20_2)) = true := decide_eq_true c37; clear c37
               by_cases c38 : x20_2 < (l1.length : Int)
               ·rw [if_pos c38] at H; have c38b0 := decide_eq_true c38; clear c38; obtain ⟨ji39, hji39⟩ : ∃ j_ : Int, (wrap64 ((rd l1 x20_2) - 1)) = j_ := ⟨_, rfl⟩; (first | rw [hji39] at H | simp only [hji39] at H); have hji39w : (IntKind.i64.wrap ((rd l1 x20_2) - 1)) = ji39 := (i64_w _).trans hji39
                by_cases c40 : 0 ≤ (ji39)
                ·rw [if_pos c40] at H; have c40b0 := decide_eq_true c40; clear c40
                 by_cases c41 : (ji39) < (l0.length : Int)
                 ·rw [if_pos c41] at H; have c41b0 := decide_eq_true c41; clear c41
                  by_cases c42 : x19_2.length < 1759218604441
                  ·rw [if_pos c42] at H; have LMc42 := Aside0.mk c42; clear c42; obtain ⟨y125, hy125⟩ : ∃ y_ : List (S23), y_ = (x19_2 ++ [(⟨wrap64 ((wrap64 ((l0.length : Int) + 1)) + (x19_2.length : Int)), a4, (rd_T23 l0 (ji39)).f2, 5, 0, rd t115 x20_2, (⟨#[]⟩ : ByteArray), rd l1 x20_2⟩ : S23)]) := ⟨_, rfl⟩; replace H : (F23.l1 k2 l0 l1 a4 t115 y125 (wrap64 (x20_2 + 1))) = some (r1, r2) := by first | (rw [hy125]; with_reducible exact H) | (have H2_ := (Option.bind_some _ _).symm.trans H; rw [hy125]; with_reducible exact H2_) | (have H2_ := (Option.bind_some _ _).symm.trans H; with_reducible exact H2_) | with_reducible exact H | (rw [hy125]; exact H) | exact H
                   have Ny125 := Aside0.mk hy125; clear hy125; have H' := Aside0.mk H; clear H; obtain ⟨Ao43, co43, eo43⟩ := Kd.R_slice HO_17.out; subst eo43; have p119 : 0 ≤ (x20_2 : Int) := of_decide_eq_true pbb2_4; have q119 : x20_2 < (t115.length : Int) := of_decide_eq_true pbb2_4; obtain ⟨ad119, e119, hx119_0⟩ := Kd.at_int (Kd.R_reads' HO_17.out).2.2 x20_2 p119 q119
                   cases e119
                   replace p119 := eq_true p119; replace q119 := eq_true q119; have p120 : 0 ≤ (x20_2 : Int) := of_decide_eq_true pbb2_4; have q120 : x20_2 < (t115.length : Int) := of_decide_eq_true pbb2_4; obtain ⟨ad120, e120, hx120_0⟩ := Kd.at_int (Kd.R_reads' HO_17.out).2.2 x20_2 p120 q120; obtain rfl : ad119 = ad120 := (by injection e120); replace p120 := eq_true p120; replace q120 := eq_true q120; (try go_wp2); replace HO_17 := Aside0.mk (Kd.R_drew HO_17.out); replace HO_19 := Aside0.mk (Kd.R_drew HO_19.out); replace HB := Aside0.mk (below_drew1 HB.out); obtain ⟨Ao45, co45, eo45⟩ := Kd.R_slice HO_19.out; (first | subst eo45 | (injection eo45 with f1_ f2_ f3_; have f4_ := f1_.symm; have f5_ := f3_.symm; clear f1_ f2_ f3_; subst f4_; subst f5_)); have p121 : 0 ≤ (x20_2 : Int) := of_decide_eq_true pbb2_4; have q121 : x20_2 < (l1.length : Int) := of_decide_eq_true pbb2_4; obtain ⟨ad121, e121, hx121_0⟩ := Kd.at_int HR1.out x20_2 p121 q121; have hw121_0 := hx121_0
                   cases e121
                   replace hx121_0 := (HB.out.cell (World.block_lt_of_cell? w _ hx121_0)).trans hx121_0; replace p121 := eq_true p121; replace q121 := eq_true q121; have p122 : 0 ≤ ((ji39) : Int) := of_decide_eq_true pbb2_4; have q122 : (ji39) < (l0.length : Int) := of_decide_eq_true pbb2_4; obtain ⟨ad122, e122, hx122_0, hx122_1, hx122_2, hx122_3, hx122_4, hx122_5, hx122_6, hx122_7⟩ := at_T23 HR0.out (ji39) p122 q122; have hw122_7 := hx122_7; have hw122_6 := hx122_6; have hw122_5 := hx122_5; have hw122_4 := hx122_4; have hw122_3 := hx122_3; have hw122_2 := hx122_2; have hw122_1 := hx122_1; have hw122_0 := hx122_0
                   cases e122
                   replace hx122_0 := (HB.out.cell (World.block_lt_of_cell? w _ hx122_0)).trans hx122_0; replace hx122_1 := (HB.out.cell (World.block_lt_of_cell? w _ hx122_1)).trans hx122_1; replace hx122_2 := (HB.out.cell (World.block_lt_of_cell? w _ hx122_2)).trans hx122_2; replace hx122_3 := (HB.out.cell (World.block_lt_of_cell? w _ hx122_3)).trans hx122_3; replace hx122_4 := (HB.out.cell (World.block_lt_of_cell? w _ hx122_4)).trans hx122_4; replace hx122_5 := (HB.out.cell (World.block_lt_of_cell? w _ hx122_5)).trans hx122_5; replace hx122_6 := (HB.out.cell (World.block_lt_of_cell? w _ hx122_6)).trans hx122_6; replace hx122_7 := (HB.out.cell (World.block_lt_of_cell? w _ hx122_7)).trans hx122_7; replace p122 := eq_true p122; replace q122 := eq_true q122; have p123 : 0 ≤ (x20_2 : Int) := of_decide_eq_true pbb2_4; have q123 : x20_2 < (t115.length : Int) := of_decide_eq_true pbb2_4; obtain ⟨ad123, e123, hx123_0⟩ := Kd.at_int (Kd.R_reads' HO_17.out).2.2 x20_2 p123 q123; obtain rfl : ad119 = ad123 := (by injection e123); replace p123 := eq_true p123; replace q123 := eq_true q123; have p124 : 0 ≤ (x20_2 : Int) := of_decide_eq_true pbb2_4; have q124 : x20_2 < (l1.length : Int) := of_decide_eq_true pbb2_4; obtain ⟨ad124, e124, hx124_0⟩ := Kd.at_int HR1.out x20_2 p124 q124; have hw124_0 := hx124_0; obtain rfl : ad121 = ad124 := (by injection e124); replace hx124_0 := (HB.out.cell (World.block_lt_of_cell? w _ hx124_0)).trans hx124_0; replace p124 := eq_true p124; replace q124 := eq_true q124; refine start_ (n := 29) (S := fun w' => w'.cell? (ad121.add (x20_2).toNat) = some (.int .i64 (rd l1 x20_2)) ∧ w'.cell? (ad122.add (((ji39)).toNat * 8)) = some (.int .i64 ((rd_T23 l0 (ji39)).f0)) ∧ w'.cell? ⟨(ad122.add (((ji39)).toNat * 8)).block, (ad122.add (((ji39)).toNat * 8)).off + 1, none⟩ = some (.int .i64 ((rd_T23 l0 (ji39)).f1)) ∧ w'.cell? ⟨(ad122.add (((ji39)).toNat * 8)).block, (ad122.add (((ji39)).toNat * 8)).off + 2, none⟩ = some (.string ((rd_T23 l0 (ji39)).f2)) ∧ w'.cell? ⟨(ad122.add (((ji39)).toNat * 8)).block, (ad122.add (((ji39)).toNat * 8)).off + 3, none⟩ = some (.int .i64 ((rd_T23 l0 (ji39)).f3)) ∧ w'.cell? ⟨(ad122.add (((ji39)).toNat * 8)).block, (ad122.add (((ji39)).toNat * 8)).off + 4, none⟩ = some (.int .i64 ((rd_T23 l0 (ji39)).f4)) ∧ w'.cell? ⟨(ad122.add (((ji39)).toNat * 8)).block, (ad122.add (((ji39)).toNat * 8)).off + 5, none⟩ = some (.int .i64 ((rd_T23 l0 (ji39)).f5)) ∧ w'.cell? ⟨(ad122.add (((ji39)).toNat * 8)).block, (ad122.add (((ji39)).toNat * 8)).off + 6, none⟩ = some (.string ((rd_T23 l0 (ji39)).f6)) ∧ w'.cell? ⟨(ad122.add (((ji39)).toNat * 8)).block, (ad122.add (((ji39)).toNat * 8)).off + 7, none⟩ = some (.int .i64 ((rd_T23 l0 (ji39)).f7)) ∧ w'.cell? (ad119.add (x20_2).toNat) = some (.int .i64 (rd t115 x20_2)) ∧ w'.cell? (ad121.add (x20_2).toNat) = some (.int .i64 (rd l1 x20_2))) (ds := [26, 27]) (bq 29 0) (by kernel_rfl) rfl rfl ⟨((HB.out.cell (World.block_lt_of_cell? w _ hw121_0)).trans hw121_0), ((HB.out.cell (World.block_lt_of_cell? w _ hw122_0)).trans hw122_0), ((HB.out.cell (World.block_lt_of_cell? w _ hw122_1)).trans hw122_1), ((HB.out.cell (World.block_lt_of_cell? w _ hw122_2)).trans hw122_2), ((HB.out.cell (World.block_lt_of_cell? w _ hw122_3)).trans hw122_3), ((HB.out.cell (World.block_lt_of_cell? w _ hw122_4)).trans hw122_4), ((HB.out.cell (World.block_lt_of_cell? w _ hw122_5)).trans hw122_5), ((HB.out.cell (World.block_lt_of_cell? w _ hw122_6)).trans hw122_6), ((HB.out.cell (World.block_lt_of_cell? w _ hw122_7)).trans hw122_7), hx123_0, ((HB.out.cell (World.block_lt_of_cell? w _ hw124_0)).trans hw124_0)⟩ (fun hHeld => ?_); refine with_tabW F23.tab28 F23.bits28 (fun HT_ HW_ => ?_); generalize wr.drew = w44 at HO_17 HO_19 HB hx121_0 hx122_0 hx122_1 hx122_2 hx122_3 hx122_4 hx122_5 hx122_6 hx122_7 hx123_0 hx124_0 hHeld ⊢; refine pv_ 0 97 (bq 29 1) HT_ ?_; refine pv_ 1 98 (bq 29 3) HT_ ?_; refine pv_ 2 99 (bq 29 7) HT_ ?_; refine pv_ 3 100 (bq 29 15) HT_ ?_; refine pv_ 4 101 (bq 29 31) HT_ ?_; refine pv_ 5 102 (bq 29 63) HT_ ?_; refine pv_ 6 103 (bq 29 127) HT_ ?_; refine pv_ 7 104 (bq 29 255) HT_ ?_; refine pv_ 8 105 (bq 29 511) HT_ ?_; refine pv_ 9 106 (bq 29 1023) HT_ ?_; refine pv_ 10 107 (bq 29 2047) HT_ ?_; refine pv_ 11 108 (bq 29 4095) HT_ ?_; refine pv_ 17 114 (bq 29 135167) HT_ ?_; refine pv_ 18 115 (bq 29 397311) HT_ ?_; refine pv_ 19 116 (bq 29 921599) HT_ ?_; refine pv_ 21 118 (bq 29 3018751) HT_ ?_; refine pv_ 22 119 (bq 29 7213055) HT_ ?_; refine pv_ 23 120 (bq 29 15601663) HT_ ?_; refine take_ (i := 12) (N := some 109) (v := ?_) (a' := ?_) (bq 29 15605759) rfl rfl (take_ofW HT_.out HW_.out (by kernel_rfl)) (fun _ _ _ h => h) (Or.inl ⟨by rfl, ?_⟩) hHeld ?_ ?_; rotate_left
                   ·rintro w' ⟨s0, s1, s2, s3, s4, s5, s6, s7, s8, s9, s10⟩; go_simp; (with_reducible rfl)
                   rotate_left
                   ·exact cbb2_0
                   refine pv_ 13 110 (bq 29 15613951) HT_ ?_; refine pv_ 14 111 (bq 29 15630335) HT_ ?_; refine pv_ 15 112 (bq 29 15663103) HT_ ?_; refine take_ (i := 16) (N := some 113) (v := ?_) (a' := ?_) (bq 29 15728639) rfl rfl (take_ofW HT_.out HW_.out (by kernel_rfl)) (fun _ _ _ h => h) (Or.inl ⟨by rfl, ?_⟩) hHeld ?_ ?_; rotate_left
                   ·rintro w' ⟨s0, s1, s2, s3, s4, s5, s6, s7, s8, s9, s10⟩; go_simp; (with_reducible rfl)
                   rotate_left
                   ·exact cbb2_0
                   refine take_ (i := 20) (N := some 117) (v := ?_) (a' := ?_) (bq 29 16777215) rfl rfl (take_ofW HT_.out HW_.out (by kernel_rfl)) (fun _ _ _ h => h) (Or.inl ⟨by rfl, ?_⟩) hHeld ?_ ?_; rotate_left
                   ·rintro w' ⟨s0, s1, s2, s3, s4, s5, s6, s7, s8, s9, s10⟩; go_simp; (with_reducible rfl)
                   rotate_left
                   ·exact cbb2_0
                   refine take_ (i := 24) (N := some 121) (v := ?_) (a' := ?_) (bq 29 33554431) rfl rfl (take_ofW HT_.out HW_.out (by kernel_rfl)) (fun _ _ _ h => h) (Or.inl ⟨by rfl, ?_⟩) hHeld ?_ ?_; rotate_left
                   ·rintro w' ⟨s0, s1, s2, s3, s4, s5, s6, s7, s8, s9, s10⟩; go_simp; (with_reducible rfl)
                   rotate_left
                   ·exact cbb2_0
                   refine pv_ 25 122 (bq 29 67108863) HT_ ?_; refine last_ (i := 26) (N := some 123) (bq 29 134217727) rfl rfl (one_of HT_.out (by kernel_rfl)) (by decide) (fun K hK => ?_); refine value_ (w1 := ?_) (v := ?_) (by rfl) rfl ?_ ?_; rotate_left 2
                   ·go_simp
                    constructor
                    ·rfl
                    ·rfl
                   refine hK.out _ _ ?_; clear hK K; refine norm_ (a' := ?_) ?_ ?_; rotate_left
                   ·show Act.put _ (some 123) _ = _; simp only [Act.put, List.setIfInBounds_toArray, List.set_cons_zero, List.set_cons_succ, i64_w, i32_w]
                    rfl
                   refine last_ (i := 27) (N := some 124) (bq 29 268435455) rfl rfl (one_of HT_.out (by kernel_rfl)) (by decide) (fun K hK => ?_); refine Kd.R_append_step k23 (w0 := w) w.heap.size (by rfl) (.tmp 97) (.tmp 123) 25 23 (.agg #[(.int .i64 0), (.int .i64 0), (.string ⟨#[]⟩), (.int .i64 0), (.int .i64 0), (.int .i64 0), (.string ⟨#[]⟩), (.int .i64 0)]) 80 rfl Tryd.underlying25 info23 rfl (by decide) (by omega) (.slice Ao45 x19_2.length co45) x19_2 (⟨wrap64 ((wrap64 ((l0.length : Int) + 1)) + (x19_2.length : Int)), a4, (rd_T23 l0 (ji39)).f2, 5, 0, rd t115 x20_2, (⟨#[]⟩ : ByteArray), rd l1 x20_2⟩ : S23) [.int .i64 (wrap64 ((wrap64 ((l0.length : Int) + 1)) + (x19_2.length : Int))), .int .i64 a4, .string ((rd_T23 l0 (ji39)).f2), .int .i64 5, .int .i64 0, .int .i64 (rd t115 x20_2), .string (⟨#[]⟩ : ByteArray), .int .i64 (rd l1 x20_2)] (fun _ => True) (fun _ => False) rfl rfl ?aP (fun _ hk => hk.elim) ?aF ?aO ?aB ?aS ?aL ?_; (case aP => exact k23_mkM _ _ _ (⟨wrap64 ((wrap64 ((l0.length : Int) + 1)) + (x19_2.length : Int)), a4, (rd_T23 l0 (ji39)).f2, 5, 0, rd t115 x20_2, (⟨#[]⟩ : ByteArray), rd l1 x20_2⟩ : S23)); (case aB => exact pbb2_3); (case aF => exact (fun _ _ => trivial)); (case aO => exact pla3_0); (case aS => exact (below_size pbb2_3)); (case aL => have := LMc42.out; omega); intro v126 w46 ho hb hg hat; rw [← Ny125.out] at ho; replace HO_17 := Aside0.mk (Kd.R_over' pla3_1 (Kd.R_typed pla3_0) (by decide) hg); replace HB := Aside0.mk (hb); have HO127 := Aside0.mk (ho); clear HO_19; clear ho hb hg hat; refine hK.out _ _ ?_; clear hK K; refine norm_ (a' := ?_) ?_ ?_; rotate_left
                   ·show Act.put _ (some 124) _ = _; simp only [Act.put, List.setIfInBounds_toArray, List.set_cons_zero, List.set_cons_succ, i64_w, i32_w]
                    rfl
                   refine pv_ 28 19 (bq 29 536870911) HT_ ?_; refine done_ (done_of HT_.out (by kernel_rfl)) ?_; (try go_wp2)
                   go_roundg k2
                   case measure => have := HK1.out; have := HK2.out; omega
                   case rel => exact ⟨(y125), (wrap64 (x20_2 + 1)), pbb2_0, H', ⟨by have := HK1.out; have := HK2.out; omega⟩, ⟨pla3_1⟩, ⟨pbb8_7⟩, ⟨pbb2_3⟩⟩
                  ·rw [if_neg c42] at H; exact absurd H (by simp)
                 ·rw [if_neg c41] at H; exact absurd H (by simp)
                ·rw [if_neg c40] at H; exact absurd H (by simp)
               ·rw [if_neg c38] at H; exact absurd H (by simp)
              ·rw [if_neg c37] at H; have c37b0 : decide (0 < (rd t115 x20_2)) = false := decide_eq_false c37; clear c37; have H' := Aside0.mk H; clear H; obtain ⟨Ao47, co47, eo47⟩ := Kd.R_slice HO_17.out; subst eo47; have p119 : 0 ≤ (x20_2 : Int) := of_decide_eq_true pbb2_4; have q119 : x20_2 < (t115.length : Int) := of_decide_eq_true pbb2_4; obtain ⟨ad119, e119, hx119_0⟩ := Kd.at_int (Kd.R_reads' HO_17.out).2.2 x20_2 p119 q119
               cases e119
               replace p119 := eq_true p119; replace q119 := eq_true q119; have p120 : 0 ≤ (x20_2 : Int) := of_decide_eq_true pbb2_4; have q120 : x20_2 < (t115.length : Int) := of_decide_eq_true pbb2_4; obtain ⟨ad120, e120, hx120_0⟩ := Kd.at_int (Kd.R_reads' HO_17.out).2.2 x20_2 p120 q120; obtain rfl : ad119 = ad120 := (by injection e120); replace p120 := eq_true p120; replace q120 := eq_true q120
               go_wp2
               go_roundg k2
               case measure => have := HK1.out; have := HK2.out; omega
               case rel => exact ⟨(x19_2), (wrap64 (x20_2 + 1)), pbb2_0, H', ⟨by have := HK1.out; have := HK2.out; omega⟩, ⟨pla3_1⟩, ⟨pla3_0⟩, ⟨pbb2_3⟩⟩
            ·rw [if_neg c34] at H; exact absurd H (by simp)
           ·rw [if_neg c33] at H; have c33b0 := decide_eq_false c33; clear c33; simp only [Option.some.injEq, Prod.mk.injEq] at H; obtain ⟨rfl, rfl⟩ := H; obtain ⟨Ao48, co48, eo48⟩ := Kd.R_slice HO_17.out; subst eo48
            go_wp2
            go_ret2
            exact ⟨_, pbb2_5, pla3_0, pbb2_3⟩
        ·rw [if_neg c30] at H; have c30b0 := nF_ c30; have c30b1 := nT_ c30; simp only [Option.some.injEq, Prod.mk.injEq] at H; obtain ⟨rfl, rfl⟩ := H; obtain ⟨Ao49, co49, eo49⟩ := Kd.R_slice HO_15.out; subst eo49
         go_wp2_with (first | ((with_reducible refine gate_callee (f := 46) rfl ?_); refine goesL_ (some 75) rfl rfl Tryd.func46 (by kernel_rfl) rfl #[.int .i64 a2, .slice Ao49 x15_1.length co49] rfl pbb2_2 ?_; (with_reducible refine (F46.calls k1 a2 _ _ x15_1 t115 t116 _ (by repeat (first | exact (Kd.R_reads' HO_15.out).2.2 | (with_reducible refine Kd.C_alloc ?_ _) | (with_reducible refine Kd.C_drewN ?_ _) | (with_reducible refine Kd.C_drew ?_))) (by exact (Kd.R_reads' HO_15.out).2.1) A29.out).mono ?_); rintro e w50 ⟨v117, rfl, ho0, hb⟩; refine ⟨_, rfl, ?_⟩; have HO118 := Aside0.mk (Kd.R_lower (Kd.R_new' ho0 (Kd.R_lt pbb7_6)) (below_size pbb2_3)); replace HO_15 := Aside0.mk (Kd.R_elder' pbb7_6 (Kd.R_base ho0) hb); replace HB := Aside0.mk (below_step pbb2_3 hb); (try clear hb); (try clear hb2); (try clear hk); (try clear hi); (try clear ho0)))
         go_ret2
         exact ⟨_, pbb2_5, pbb3_0, pbb2_3⟩
    ·rw [if_neg c13] at H; have c13b0 := nF_ c13; have c13b1 := nT_ c13; simp only [Option.some.injEq, Prod.mk.injEq] at H; obtain ⟨rfl, rfl⟩ := H; go_enter Tryd.func23, Tryd.ntmps23
     go_wp2_with (first | ((with_reducible refine gate_callee (f := 15) rfl ?_); refine goesL_ (some 23) rfl rfl Tryd.func15 (by kernel_rfl) rfl #[.slice A0 l0.length c0] rfl pbb2_2 ?_; (with_reducible refine (F15.calls k _ _ l0 t101 t102 _ pbb3_6 HC0.out A6.out).mono ?_); rintro e w51 ⟨rfl, hb⟩; refine ⟨_, rfl, ?_⟩; replace HB := Aside0.mk (below_step pbb2_3 hb); (try clear hb); (try clear hb2); (try clear hk); (try clear hi)) | ((with_reducible refine gate_callee (f := 32) rfl ?_); refine goesL_ (some 30) rfl rfl Tryd.func32 (by kernel_rfl) rfl #[.int .i64 a4] rfl pbb2_2 ?_; (with_reducible refine (F32.calls a4 true _ A8.out).mono ?_); rintro e w' ⟨rfl, ⟨nd, rfl⟩⟩; refine ⟨_, rfl, ?_⟩) | ((with_reducible refine gate_callee (f := 45) rfl ?_); refine goesL_ (some 37) rfl rfl Tryd.func45 (by kernel_rfl) rfl #[.slice A0 l0.length c0, .slice A1 l1.length c1, .int .i64 a4] rfl pbb2_2 ?_; (with_reducible refine (F45.calls k _ _ l0 _ _ l1 a4 t104 _ (by repeat (first | exact (Kd.C_below HR0.out pbb2_3) | (with_reducible refine Kd.C_alloc ?_ _) | (with_reducible refine Kd.C_drewN ?_ _) | (with_reducible refine Kd.C_drew ?_))) HC0.out (by repeat (first | exact (Kd.C_below HR1.out pbb2_3) | (with_reducible refine Kd.C_alloc ?_ _) | (with_reducible refine Kd.C_drewN ?_ _) | (with_reducible refine Kd.C_drew ?_))) HC1.out A12.out).mono ?_); rintro e w' ⟨rfl, ⟨nd, rfl⟩⟩; refine ⟨_, rfl, ?_⟩))
     go_ret2
     exact ⟨_, pbb2_5, pbb3_0, pbb2_3⟩
  ·replace c9 := Bool.eq_false_iff.mpr c9; subst c9; rw [if_neg (show ¬ (false = true) by decide)] at H; simp only [Option.some.injEq, Prod.mk.injEq] at H; obtain ⟨rfl, rfl⟩ := H; go_enter Tryd.func23, Tryd.ntmps23
   go_wp2_with (first | ((with_reducible refine gate_callee (f := 15) rfl ?_); refine goesL_ (some 23) rfl rfl Tryd.func15 (by kernel_rfl) rfl #[.slice A0 l0.length c0] rfl pbb2_2 ?_; (with_reducible refine (F15.calls k _ _ l0 t101 t102 _ pbb3_6 HC0.out A6.out).mono ?_); rintro e w52 ⟨rfl, hb⟩; refine ⟨_, rfl, ?_⟩; replace HB := Aside0.mk (below_step pbb2_3 hb); (try clear hb); (try clear hb2); (try clear hk); (try clear hi)) | ((with_reducible refine gate_callee (f := 32) rfl ?_); refine goesL_ (some 30) rfl rfl Tryd.func32 (by kernel_rfl) rfl #[.int .i64 a4] rfl pbb2_2 ?_; (with_reducible refine (F32.calls a4 false _ A8.out).mono ?_); rintro e w' ⟨rfl, ⟨nd, rfl⟩⟩; refine ⟨_, rfl, ?_⟩))
   go_ret2
   exact ⟨_, pbb2_5, pbb3_0, pbb2_3⟩
 ·rw [if_neg c7] at H; have c7b0 := nF_ c7; have c7b1 := nT_ c7; simp only [Option.some.injEq, Prod.mk.injEq] at H; obtain ⟨rfl, rfl⟩ := H; go_enter Tryd.func23, Tryd.ntmps23
  go_wp2_with (first | ((with_reducible refine gate_callee (f := 15) rfl ?_); refine goesL_ (some 23) rfl rfl Tryd.func15 (by kernel_rfl) rfl #[.slice A0 l0.length c0] rfl pbb2_2 ?_; (with_reducible refine (F15.calls k _ _ l0 t101 t102 _ pbb3_6 HC0.out A6.out).mono ?_); rintro e w53 ⟨rfl, hb⟩; refine ⟨_, rfl, ?_⟩; replace HB := Aside0.mk (below_step pbb2_3 hb); (try clear hb); (try clear hb2); (try clear hk); (try clear hi)))
  go_ret2
  exact ⟨_, pbb2_5, pbb3_0, pbb2_3⟩
def F7.j0 : Nat → List (S23) → Bool → List Int → List Int → Int → Bool → Int → Option (Bool)
  | 0, _, _, _, _, _, _, _ => none
  | k + 1, x0, x17, x777, x102000, x102001, x102002, x102003 => if x17 = true then ((F11.f k x777).bind fun t103 => (some t103)) else ((F22.f k x0 x102000 x102001 x102002 x102003 x777).bind fun bt104 => ((F23.f k x0 x102000 x102001 x102002 x102003).bind fun bt108 => ((F16.f k bt104.1 bt108.1).bind fun t112 => (if t112 = true then (if bt104.2 = bt108.2 then ((F11.f k x777).bind fun t113 => (some t113)) else (none)) else (none)))))
def F7.f (k : Nat) (l0 : List (S23)) (l1_0 : List Int) (a1_1 : Int) (a1_2 : Bool) (a1_3 : Int) (l2 : List Int) : Option (Bool) := (F10.f k l0).bind fun t102 => (if t102 = true then (F7.j0 k l0 (decide ((l1_0.length : Int) > 250)) l2 l1_0 a1_1 a1_2 a1_3) else (F7.j0 k l0 true l2 l1_0 a1_1 a1_2 a1_3))
set_option maxHeartbeats 8000000 in
set_option maxRecDepth 100000 in
theorem F7.calls (k : Nat) (A0 : Option Addr) (c0 : Nat) (l0 : List (S23)) (A1_0 : Option Addr) (c1_0 : Nat) (l1_0 : List Int) (a1_1 : Int) (a1_2 : Bool) (a1_3 : Int) (A2 : Option Addr) (c2 : Nat) (l2 : List Int) (r : Bool) (w : World) (hr0 : Kd.C k23 w A0 l0.length l0) (hc0 : l0.length ≤ c0) (hr1_0 : Kd.C (Kd.int .i64) w A1_0 l1_0.length l1_0) (hc1_0 : l1_0.length ≤ c1_0) (hr2 : Kd.C kTab w A2 l2.length l2) (hc2 : l2.length ≤ c2) (h : F7.f k l0 l1_0 a1_1 a1_2 a1_3 l2 = some r) :
    Calls Tryd.prog 7 #[.slice A0 l0.length c0, .agg #[.slice A1_0 l1_0.length c1_0, .int .i64 a1_1, .bool a1_2, .int .i64 a1_3]] w fun e w' => e = .returned (.bool r) ∧ Below w.heap.size w w' := by
 have hu44 := Tryd.underlying44; have hu37 := Tryd.underlying37; have hu3 := Tryd.underlying3; have hu4 := Tryd.underlying4; have HR0 := Aside0.mk hr0; have HC0 := Aside0.mk hc0; clear hr0 hc0; have HR1_0 := Aside0.mk hr1_0; have HC1_0 := Aside0.mk hc1_0; clear hr1_0 hc1_0; have HR2 := Aside0.mk hr2; have HC2 := Aside0.mk hc2; clear hr2 hc2; have HB := Aside0.mk (Below.refl w.heap.size w)
 unfold F7.f at h
 have H := h; clear h; have HC4 := Aside0.mk H; clear H; go_enter Tryd.func7, Tryd.ntmps7
 go_upto_region 1 with (first | ((with_reducible refine gate_dst (N := 3) rfl ?_); (try (refine gate_guard (by rfl) ?_; dsimp only)); refine box_event ?hg (N := 3) ?hd (cs := #[.slice A1_0 l1_0.length c1_0, .int .i64 a1_1, .bool a1_2, .int .i64 a1_3]) (t := 44) ?hr ?_; (case hd => rfl); (case hg => rfl); (case hr => first | (go_simp; done) | (go_simp; rfl)); intro gb101 hg w5 hbox hb; have BK101 := Aside0.mk (hbox); have GW101 := Aside0.mk ((pbb2_6 : w.heap.size ≤ gb101)); have GE101 := Aside0.mk ((pbb2_6 : w.heap.size ≤ gb101)); replace HB := Aside0.mk (below_step pbb2_3 hb); clear hb hbox hg))
 (try simp only [Act.put, List.setIfInBounds_toArray, List.set_cons_zero, List.set_cons_succ])
 go_cut [17] (fun v17 wc => ∃ (kq : Nat) (x17_3 : Bool), v17 = .bool x17_3 ∧ Aside0 (F7.j0 kq l0 x17_3 l2 l1_0 a1_1 a1_2 a1_3 = some r) ∧ Aside0 (kq ≤ k) ∧ Aside0 (wc.heap[gb101]? = some (.cells #[(.slice A1_0 l1_0.length c1_0), .int .i64 a1_1, .bool a1_2, .int .i64 a1_3] 44 (0, 0))) ∧ Aside0 (Below w.heap.size w wc))
 case first =>
  have H := HC4.out; clear HC4; obtain ⟨t102, A60, H⟩ := bnd H; have A6 := Aside0.mk A60; clear A60
  by_cases c7 : t102 = true
  ·subst c7; rw [if_pos rfl] at H; have H' := Aside0.mk H; clear H
   go_wp2_with (first | ((with_reducible refine gate_callee (f := 10) rfl ?_); refine goesL_ (some 10) rfl rfl Tryd.func10 (by kernel_rfl) rfl #[.slice A0 l0.length c0] rfl pbb2_2 ?_; (with_reducible refine (F10.calls k _ _ l0 true _ pbb8_1 HC0.out A6.out).mono ?_); rintro e w' ⟨rfl, ⟨nd, rfl⟩⟩; refine ⟨_, rfl, ?_⟩; obtain ⟨hcz8_0, hcz8_1, hcz8_2, hcz8_3⟩ := cz4 BK101.out; obtain ⟨hfz8_0, hfz8_1, hfz8_2, hfz8_3⟩ := fz4 BK101.out))
   go_meet
   case rel => exact ⟨_, (decide ((l1_0.length : Int) > 250)), pbb2_0, H', ⟨pla1_0⟩, ⟨pbb2_10⟩, ⟨pbb2_9⟩⟩
  ·replace c7 := Bool.eq_false_iff.mpr c7; subst c7; rw [if_neg (show ¬ (false = true) by decide)] at H; have H' := Aside0.mk H; clear H
   go_wp2_with (first | ((with_reducible refine gate_callee (f := 10) rfl ?_); refine goesL_ (some 10) rfl rfl Tryd.func10 (by kernel_rfl) rfl #[.slice A0 l0.length c0] rfl pbb2_2 ?_; (with_reducible refine (F10.calls k _ _ l0 false _ pbb8_1 HC0.out A6.out).mono ?_); rintro e w' ⟨rfl, ⟨nd, rfl⟩⟩; refine ⟨_, rfl, ?_⟩))
   go_meet
   case rel => exact ⟨_, (true), pbb2_0, H', ⟨pla1_0⟩, ⟨pbb2_10⟩, ⟨pbb2_9⟩⟩
 case rest =>
  clear HC4; obtain ⟨kq, x17_3, rfl, HA, HJ3, BK101, HB⟩ := hcut
  cases kq with
  | zero => exact absurd HA.out (by simp [F7.j0])
  | succ kj3 =>
   have H := HA.out; clear HA; simp only [F7.j0] at H
   by_cases c9 : x17_3 = true
   ·subst c9; rw [if_pos rfl] at H; obtain ⟨t103, A100, H⟩ := bnd H; have A10 := Aside0.mk A100; clear A100; obtain rfl := Option.some.inj H
    go_wp2_with (first | ((with_reducible refine gate_callee (f := 11) rfl ?_); refine goesL_ (some 18) rfl rfl Tryd.func11 (by kernel_rfl) rfl #[] rfl pbb2_2 ?_; (with_reducible refine (F11.calls kj3 A2 c2 l2 t103 _ (by repeat (first | exact (Kd.C_below HR2.out HB.out) | (with_reducible refine Kd.C_alloc ?_ _) | (with_reducible refine Kd.C_drewN ?_ _) | (with_reducible refine Kd.C_drew ?_))) HC2.out A10.out).mono ?_); rintro e w11 ⟨rfl, hb⟩; refine ⟨_, rfl, ?_⟩; replace BK101 := Aside0.mk (blk_below (g := gb101) (o := .cells #[.slice A1_0 l1_0.length c1_0, .int .i64 a1_1, .bool a1_2, .int .i64 a1_3] 44 (0, 0)) pbb2_10 hb); replace HB := Aside0.mk (below_step pbb2_9 hb); (try clear hb); (try clear hb2); (try clear hk); (try clear hi)))
    go_ret
    exact ⟨pbb2_5, pbb2_9⟩
   ·replace c9 := Bool.eq_false_iff.mpr c9; subst c9; rw [if_neg (show ¬ (false = true) by decide)] at H; obtain ⟨⟨t104, t105⟩, A120, H⟩ := bnd H; (try dsimp only at H); have A12 := Aside0.mk A120; clear A120; obtain ⟨⟨t108, t109⟩, A130, H⟩ := bnd H; (try dsimp only at H); have A13 := Aside0.mk A130; clear A130; obtain ⟨t112, A140, H⟩ := bnd H; have A14 := Aside0.mk A140; clear A140
    by_cases c15 : t112 = true
    ·subst c15; rw [if_pos rfl] at H
     by_cases c16 : t105 = t109
     ·rw [if_pos c16] at H; have c16b0 := bT_ c16; have c16b1 := bF_ c16; clear c16; obtain ⟨t113, A170, H⟩ := bnd H; have A17 := Aside0.mk A170; clear A170; obtain rfl := Option.some.inj H; obtain ⟨hcz18_0, hcz18_1, hcz18_2, hcz18_3⟩ := cz4 BK101.out; obtain ⟨hfz18_0, hfz18_1, hfz18_2, hfz18_3⟩ := fz4 BK101.out
      go_wp2_with (first | ((with_reducible refine gate_callee (f := 22) rfl ?_); refine goesL_ (some 29) rfl rfl Tryd.func22 (by kernel_rfl) rfl #[.slice A0 l0.length c0, .slice A1_0 l1_0.length c1_0, .int .i64 a1_1, .bool a1_2, .int .i64 a1_3] rfl pbb2_2 ?_; (with_reducible refine (F22.calls kj3 _ _ l0 _ _ l1_0 a1_1 a1_2 a1_3 A2 c2 l2 t104 t105 _ pbb8_1 HC0.out (by repeat (first | exact (Kd.C_below HR1_0.out HB.out) | (with_reducible refine Kd.C_alloc ?_ _) | (with_reducible refine Kd.C_drewN ?_ _) | (with_reducible refine Kd.C_drew ?_))) (by exact HC1_0.out) (by repeat (first | exact (Kd.C_below HR2.out HB.out) | (with_reducible refine Kd.C_alloc ?_ _) | (with_reducible refine Kd.C_drewN ?_ _) | (with_reducible refine Kd.C_drew ?_))) HC2.out A12.out).mono ?_); rintro e w19 ⟨v106, rfl, ho0, hb⟩; refine ⟨_, rfl, ?_⟩; have HO107 := Aside0.mk (Kd.R_lower ho0 (below_size pbb2_9)); replace BK101 := Aside0.mk (blk_below (g := gb101) (o := .cells #[.slice A1_0 l1_0.length c1_0, .int .i64 a1_1, .bool a1_2, .int .i64 a1_3] 44 (0, 0)) pbb2_10 hb); replace HB := Aside0.mk (below_step pbb2_9 hb); (try clear hb); (try clear hb2); (try clear hk); (try clear hi); (try clear ho0); obtain ⟨hcz20_0, hcz20_1, hcz20_2, hcz20_3⟩ := cz4 BK101.out; obtain ⟨hfz20_0, hfz20_1, hfz20_2, hfz20_3⟩ := fz4 BK101.out) | ((with_reducible refine gate_callee (f := 23) rfl ?_); refine goesL_ (some 42) rfl rfl Tryd.func23 (by kernel_rfl) rfl #[.slice A0 l0.length c0, .slice A1_0 l1_0.length c1_0, .int .i64 a1_1, .bool a1_2, .int .i64 a1_3] rfl pbb2_2 ?_; (with_reducible refine (F23.calls kj3 _ _ l0 _ _ l1_0 a1_1 a1_2 a1_3 t108 t109 _ pbb8_1 HC0.out (by repeat (first | exact (Kd.C_below HR1_0.out HB.out) | (with_reducible refine Kd.C_alloc ?_ _) | (with_reducible refine Kd.C_drewN ?_ _) | (with_reducible refine Kd.C_drew ?_))) (by exact HC1_0.out) A13.out).mono ?_); rintro e w21 ⟨v110, rfl, ho0, hb⟩; refine ⟨_, rfl, ?_⟩; have HO111 := Aside0.mk (Kd.R_lower (Kd.R_new' ho0 (Kd.R_lt pla3_2)) (below_size pbb2_9)); replace HO107 := Aside0.mk (Kd.R_elder' pla3_2 (Kd.R_base ho0) hb); replace BK101 := Aside0.mk (blk_below (g := gb101) (o := .cells #[.slice A1_0 l1_0.length c1_0, .int .i64 a1_1, .bool a1_2, .int .i64 a1_3] 44 (0, 0)) pbb2_10 hb); replace HB := Aside0.mk (below_step pbb2_9 hb); (try clear hb); (try clear hb2); (try clear hk); (try clear hi); (try clear ho0); obtain ⟨Ao22, co22, eo22⟩ := Kd.R_slice HO107.out; subst eo22; obtain ⟨Ao23, co23, eo23⟩ := Kd.R_slice HO111.out; subst eo23) | ((with_reducible refine gate_callee (f := 16) rfl ?_); refine goesL_ (some 47) rfl rfl Tryd.func16 (by kernel_rfl) rfl #[.slice Ao22 t104.length co22, .slice Ao23 t108.length co23] rfl pbb2_2 ?_; (with_reducible refine (F16.calls kj3 _ _ t104 _ _ t108 true _ (by repeat (first | exact (Kd.R_reads' HO107.out).2.2 | (with_reducible refine Kd.C_alloc ?_ _) | (with_reducible refine Kd.C_drewN ?_ _) | (with_reducible refine Kd.C_drew ?_))) (by exact (Kd.R_reads' HO107.out).2.1) (by repeat (first | exact (Kd.R_reads' HO111.out).2.2 | (with_reducible refine Kd.C_alloc ?_ _) | (with_reducible refine Kd.C_drewN ?_ _) | (with_reducible refine Kd.C_drew ?_))) (by exact (Kd.R_reads' HO111.out).2.1) A14.out).mono ?_); rintro e w' ⟨rfl, ⟨nd, rfl⟩⟩; refine ⟨_, rfl, ?_⟩) | (go_at_call 11; (with_reducible refine (F11.calls kj3 A2 c2 l2 t113 _ (by repeat (first | exact (Kd.C_below HR2.out pbb2_9) | (with_reducible refine Kd.C_alloc ?_ _) | (with_reducible refine Kd.C_drewN ?_ _) | (with_reducible refine Kd.C_drew ?_))) HC2.out A17.out).mono ?_); rintro e w24 ⟨rfl, hb⟩; replace HO107 := Aside0.mk (Kd.R_below pla3_2 hb); replace HO111 := Aside0.mk (Kd.R_below (by (with_reducible repeat (first | apply Kd.R_alloc | apply Kd.R_drewN | apply Kd.R_drew)); exact HO111.out) hb); replace BK101 := Aside0.mk (blk_below (g := gb101) (o := .cells #[.slice A1_0 l1_0.length c1_0, .int .i64 a1_1, .bool a1_2, .int .i64 a1_3] 44 (0, 0)) pbb2_10 hb); replace HB := Aside0.mk (below_step pbb2_9 hb); (try clear hb); (try clear hb2); (try clear hk); (try clear hi)))
      go_ret
      exact ⟨pbb2_5, pbb2_9⟩
     ·rw [if_neg c16] at H; exact absurd H (by simp)
    ·replace c15 := Bool.eq_false_iff.mpr c15; subst c15; rw [if_neg (show ¬ (false = true) by decide)] at H; exact absurd H (by simp)
end Go.Proofs.YtegpappenmhndaaDoor.M
end
section
namespace Go.Proofs.YtegpappenmhndaaDoorW.PrintLast
open Go.RowKit Go.Proofs.YtegpappenmhndaaDoorW.PrintWords
section
variable {P : Program} {α β : Type}
structure Opens (P : Program) (d : Kd α) (t : TypeId) (G : α → Prop) : Prop where
  get : ∀ {H : Type} (enc : TypeId × Value → H) (W : World) (base : Nat) (sp : Nat → Bool) (held : Bool) (fuel : Nat) (cs : List Value) (x : DataW H × List MemPlace), DataW.trod enc P W base sp held fuel t cs = some x → (∀ n ∈ DataW.weights P t x.1, n ≤ reachBytes) → ∃ a : α, d.K W a cs ∧ G a
theorem Opens.imp {d : Kd α} {t : TypeId} {G G' : α → Prop} (h : Opens P d t G) (hg : ∀ a, G a → G' a) : Opens P d t G' :=
  ⟨fun enc W base sp held fuel cs x hx hw => let ⟨a, h1, h2⟩ := h.get enc W base sp held fuel cs x hx hw; ⟨a, h1, hg a h2⟩⟩
theorem Opens.int {t : TypeId} {k : IntKind} (ht : P.underlying t = some (.int k)) : Opens P (Kd.int k) t (fun n => (Lit.int k n).wf = true) :=
  ⟨fun enc W base sp held fuel cs x hx hw => by
    obtain ⟨n, rfl, _, h⟩ := DataW.trod_int ht hx; exact ⟨n, rfl, h⟩⟩
theorem Opens.bool {t : TypeId} (ht : P.underlying t = some .bool) : Opens P Kd.bool t (fun _ => True) :=
  ⟨fun enc W base sp held fuel cs x hx hw => by
    obtain ⟨n, rfl, _⟩ := DataW.trod_bool ht hx; exact ⟨n, rfl, trivial⟩⟩
theorem Opens.string {t : TypeId} (ht : P.underlying t = some .string) : Opens P Kd.string t (fun s => s.size ≤ 140737488351232) :=
  ⟨fun enc W base sp held fuel cs x hx hw => by
    obtain ⟨s, rfl, rfl, h⟩ := DataW.trod_string ht hx; have := hw s.data.toList.length (by simp [DataW.weights]); rw [Array.length_toList] at this; exact ⟨s, rfl, this⟩⟩
theorem list_of {Q : Nat → α → Prop} : ∀ n : Nat, (∀ i, i < n → ∃ a, Q i a) → ∃ xs : List α, xs.length = n ∧ ∀ i a, xs[i]? = some a → Q i a
  | 0, _ => ⟨[], rfl, fun i a h => by simp at h⟩
  | n + 1, h => by
    obtain ⟨xs, hl, hx⟩ := list_of n (fun i hi => h i (by omega)); obtain ⟨a, ha⟩ := h n (by omega); refine ⟨xs ++ [a], by simp [hl], fun i b hb => ?_⟩
    by_cases hi : i < n
    · rw [List.getElem?_append_left (by omega)] at hb; exact hx i b hb
    · have hi2 : i < n + 1 := by have := (List.getElem?_eq_some_iff.1 hb).1; simp [hl] at this; exact this
      obtain rfl : i = n := by omega
      rw [List.getElem?_append_right (by omega), hl] at hb
      simp at hb
      subst hb; exact ha
theorem Opens.slice {d : Kd α} {t e : TypeId} {G : α → Prop} (ht : P.underlying t = some (.slice e)) (h : Opens P d e G) (hc : P.cellsOf e = d.sz) {b : Nat} (hb : P.bytesOf e = b) : Opens P (Kd.slice e d) t (fun xs => xs.length * b ≤ 140737488351232 ∧ ∀ x ∈ xs, G x) :=
  ⟨fun {H} enc W base sp held fuel cs x hx hw => by
    rcases DataW.trod_slice ht hx with ⟨rfl, rfl⟩ | ⟨a, len, cap, elems, rest, n, rfl, rfl, rfl, hba, hl, hm, hlen, hel, _, _⟩
    · exact ⟨[], ⟨none, 0, rfl, Nat.le_refl _, rfl, by simp, fun h => absurd h (Nat.lt_irrefl 0)⟩, by simp, fun _ h => by simp at h⟩
    · simp only [DataW.weights, ht] at hw; have hw0 := hw _ (List.mem_cons_self ..)
      have each : ∀ i, i < len → ∃ y : α, (∃ c : List Value, c.length = d.sz ∧ d.K W y c ∧ ∀ j u, c[j]? = some u → W.cell? (a.add (i * d.sz + j)) = some u) ∧ G y := by
        intro i hi; have h1 := hel i hi; rw [List.getElem?_eq_getElem (by omega)] at h1; obtain ⟨c, hcs, h2⟩ := Option.bind_eq_some_iff.1 h1; obtain ⟨_, hcl, hcc⟩ := World.cells?_some hcs
        obtain ⟨y, hk, hg⟩ := h.get enc W base sp held n c _ h2 (fun m hm => hw m (List.mem_cons_of_mem _ (List.mem_append_left _ (by
          have : ∀ (l : List (DataW H)) (z : DataW H), z ∈ l → ∀ m ∈ DataW.weights P e z, m ∈ DataW.weightsAll P e l := by
            intro l z hz m hm
            induction l with
            | nil => simp at hz
            | cons y l ih =>
              simp only [DataW.weightsAll, List.mem_append]
              rcases List.mem_cons.1 hz with rfl | hz
              · exact .inl hm
              · exact .inr (ih hz)
          exact this _ _ (List.mem_map.2 ⟨_, List.getElem_mem (by omega), rfl⟩) m hm))))
        refine ⟨y, ⟨c, by rw [hcl, hc], hk, fun j u hu => ?_⟩, hg⟩; have hj : j < c.length := (List.getElem?_eq_some_iff.1 hu).1; rw [hc] at hcc; have := hcc j (by omega); rw [add_add] at this; rw [this, hu]
      obtain ⟨ys, hyl, hy⟩ := list_of len each; refine ⟨ys, ⟨some a, cap, by rw [hyl], by omega, rfl, ?_, fun _ => ⟨a, rfl, fun j p hj => (hy j p hj).1⟩⟩, ?_, fun y hy' => ?_⟩
      · unfold maxLen at hm; omega
      · rw [hyl]; have h2 : (elems.map (·.1)).length + (rest.map (·.1)).length ≥ len := by simp; omega
        have h3 : len * b ≤ ((elems.map (·.1)).length + (rest.map (·.1)).length) * P.bytesOf e := by rw [hb]; exact Nat.mul_le_mul_right _ h2
        exact Nat.le_trans h3 hw0
      · obtain ⟨j, hj⟩ := List.getElem?_of_mem hy'; exact (hy j y hj).2⟩
theorem Opens.iso {d : Kd α} {t : TypeId} {G : α → Prop} (h : Opens P d t G) (f : β → α) (g : α → β) (hg : ∀ a, f (g a) = a) : Opens P (Kd.iso d f) t (fun b => G (f b)) :=
  ⟨fun enc W base sp held fuel cs x hx hw => let ⟨a, h1, h2⟩ := h.get enc W base sp held fuel cs x hx hw; ⟨g a, by show d.K W (f (g a)) cs; rw [hg]; exact h1, by rw [hg]; exact h2⟩⟩
structure FOpens (P : Program) (d : Kd α) (fs : List Field) (o : Nat) (G : α → Prop) : Prop where
  get : ∀ {H : Type} (enc : TypeId × Value → H) (W : World) (base : Nat) (sp : Nat → Bool) (held : Bool) (n : Nat) (cs : List Value) (xs : List (DataW H × List MemPlace)), o + d.sz = cs.length → xs.length = fs.length →
    (∀ (i : Nat) (f : Field), fs[i]? = some f → DataW.trod enc P W base sp held n f.type ((cs.drop f.offset).take (P.cellsOf f.type)) = xs[i]?) → (∀ m ∈ DataW.weightsEach P (fs.map (·.type)) (xs.map (·.1)), m ≤ reachBytes) → ∃ a : α, d.K W a (cs.drop o) ∧ G a
theorem FOpens.one {d : Kd α} {f : Field} {o : Nat} {G : α → Prop} (h : Opens P d f.type G) (ho : f.offset = o) (hs : P.cellsOf f.type = d.sz) : FOpens P d [f] o G :=
  ⟨fun enc W base sp held n cs xs hl hx ht hw => by
    obtain ⟨x, rfl⟩ := List.length_eq_one_iff.1 hx; have h1 := ht 0 f rfl; rw [ho, hs, List.take_of_length_le (by simp; omega)] at h1; exact h.get enc W base sp held n _ x h1 (fun m hm => hw m (by simpa [DataW.weightsEach] using hm))⟩
theorem FOpens.cons {d : Kd α} {d2 : Kd β} {f : Field} {fs : List Field} {o : Nat} {G : α → Prop} {G2 : β → Prop} (h : Opens P d f.type G) (ho : f.offset = o) (hs : P.cellsOf f.type = d.sz) (hr : FOpens P d2 fs (o + d.sz) G2) : FOpens P (Kd.pair d d2) (f :: fs) o (fun p => G p.1 ∧ G2 p.2) :=
  ⟨fun enc W base sp held n cs xs hl hx ht hw => by
    cases xs with
    | nil => simp at hx
    | cons x xs =>
      have h1 := ht 0 f rfl; simp only [List.getElem?_cons_zero] at h1; rw [ho, hs] at h1; have e : o + (Kd.pair d d2).sz = o + d.sz + d2.sz := by show o + (d.sz + d2.sz) = _; omega
      obtain ⟨a, ha, hga⟩ := h.get enc W base sp held n _ x h1 (fun m hm => hw m (by simp only [List.map_cons, DataW.weightsEach, List.mem_append]; exact .inl hm)); obtain ⟨b, hb, hgb⟩ := hr.get enc W base sp held n cs xs (by omega) (by simpa using hx) (fun i f' hf => by simpa using ht (i + 1) f' (by simpa using hf)) (fun m hm => hw m (by simp only [List.map_cons, DataW.weightsEach, List.mem_append]; exact .inr hm)); refine ⟨(a, b), ⟨_, _, ?_, ha, hb⟩, hga, hgb⟩; rw [← List.drop_drop, List.take_append_drop]⟩
theorem Opens.struct {d : Kd α} {t : TypeId} {fs : Array Field} {G : α → Prop} (ht : P.underlying t = some (.struct fs)) (hs : P.cellsOf t = d.sz) (h : FOpens P d fs.toList 0 G) : Opens P d t G :=
  ⟨fun enc W base sp held fuel cs x hx hw => by
    obtain ⟨xs, n, rfl, rfl, hl, hxl, hi⟩ := DataW.trod_struct ht hx; simp only [DataW.weights, ht] at hw; have := h.get enc W base sp held n cs xs (by omega) (by simpa using hxl) (fun i f hf => hi i f (by simpa using hf)) hw
    simpa using this⟩
theorem weights_at {H : Type} {ts : List TypeId} {ds : List (DataW H)} (h : (DataW.weightsEach P ts ds).all (· ≤ reachBytes) = true) {j : Nat} {t : TypeId} {d : DataW H} (ht : ts[j]? = some t) (hd : ds[j]? = some d) : ∀ n ∈ DataW.weights P t d, n ≤ reachBytes :=
  fun n hn => by simpa using List.all_eq_true.1 h _ (DataW.weights_mem_each ht hd n hn)
end
end Go.Proofs.YtegpappenmhndaaDoorW.PrintLast
end
section
namespace Go.Proofs.YtegpappenmhndaaDoor.M
open Go.RowKit Go.Proofs.YtegpappenmhndaaDoorW.PrintWords Go.Proofs.YtegpappenmhndaaDoorW.PrintLast Go.Proofs.YtegpappenmhndaaDoorW.PrintMore
attribute [local go_sem] max2_int min2_int max_two min_two max_three min_three max_four min_four
set_option linter.unusedVariables false
set_option linter.unusedSimpArgs false
def G23 (x_ : S23) : Prop := ((Lit.int .i64 x_.f0).wf = true) ∧ (((Lit.int .i64 x_.f1).wf = true) ∧ ((x_.f2.size ≤ 140737488351232) ∧ (((Lit.int .i64 x_.f3).wf = true) ∧ (((Lit.int .i64 x_.f4).wf = true) ∧ (((Lit.int .i64 x_.f5).wf = true) ∧ ((x_.f6.size ≤ 140737488351232) ∧ ((Lit.int .i64 x_.f7).wf = true)))))))
theorem opens23 : Opens Tryd.prog k23 23 G23 :=
  Opens.imp (Opens.iso (Opens.struct Tryd.underlying23 (by kernel_rfl) (FOpens.cons (Opens.int Tryd.underlying3) rfl (by kernel_rfl) (FOpens.cons (Opens.int Tryd.underlying3) rfl (by kernel_rfl) (FOpens.cons (Opens.string Tryd.underlying9) rfl (by kernel_rfl) (FOpens.cons (Opens.int Tryd.underlying3) rfl (by kernel_rfl) (FOpens.cons (Opens.int Tryd.underlying3) rfl (by kernel_rfl) (FOpens.cons (Opens.int Tryd.underlying3) rfl (by kernel_rfl) (FOpens.cons (Opens.string Tryd.underlying9) rfl (by kernel_rfl) (FOpens.one (Opens.int Tryd.underlying3) rfl (by kernel_rfl)))))))))) (fun x : S23 => (x.f0, x.f1, x.f2, x.f3, x.f4, x.f5, x.f6, x.f7)) (fun p => (⟨p.1, p.2.1, p.2.2.1, p.2.2.2.1, p.2.2.2.2.1, p.2.2.2.2.2.1, p.2.2.2.2.2.2.1, p.2.2.2.2.2.2.2⟩ : S23)) (fun _ => rfl)) (fun _ h => h)
def G44 (x_ : S44) : Prop := (x_.f0.length * 8 ≤ 140737488351232 ∧ ∀ y0_ ∈ x_.f0, (Lit.int .i64 y0_).wf = true) ∧ (((Lit.int .i64 x_.f1).wf = true) ∧ ((True) ∧ ((Lit.int .i64 x_.f3).wf = true)))
theorem opens44 : Opens Tryd.prog k44 44 G44 :=
  Opens.imp (Opens.iso (Opens.struct Tryd.underlying44 (by kernel_rfl) (FOpens.cons (Opens.slice Tryd.underlying37 (Opens.int Tryd.underlying3) (by kernel_rfl) (b := 8) (by kernel_rfl)) rfl (by kernel_rfl) (FOpens.cons (Opens.int Tryd.underlying3) rfl (by kernel_rfl) (FOpens.cons (Opens.bool Tryd.underlying4) rfl (by kernel_rfl) (FOpens.one (Opens.int Tryd.underlying3) rfl (by kernel_rfl)))))) (fun x : S44 => (x.f0, x.f1, x.f2, x.f3)) (fun p => (⟨p.1, p.2.1, p.2.2.1, p.2.2.2⟩ : S44)) (fun _ => rfl)) (fun _ h => h)
/-- THE ONE PURE STATEMENT of F7. -/
def F7.Pure : Prop := ∀ (x0 : List (S23)) (x1 : S44), (x0.length * 80 ≤ 140737488351232 ∧ ∀ y0_ ∈ x0, G23 y0_) → (G44 x1) → ∃ k, F7.f k x0 x1.f0 x1.f1 x1.f2 x1.f3 months = some true
end Go.Proofs.YtegpappenmhndaaDoor.M
end
section
namespace Go.Proofs.YtegpappenmhndaaDoor.M
open Go.RowKit Go.Proofs.YtegpappenmhndaaDoorW.PrintWords Go.Proofs.YtegpappenmhndaaDoorW.PrintLast
set_option linter.unusedVariables false
set_option linter.unusedSimpArgs false
def dayv (n : Int) : Bool := decide (0 ≤ n ∧ n ≤ 109572)
def bef (y : Int) : Int := 365 * (y - 1900) + ((y - 1) / 4 - (y - 1) / 100 + (y - 1) / 400 - 460)
def lpv (y : Int) : Bool := (decide (y % 4 = 0) && !decide (y % 100 = 0)) || decide (y % 400 = 0)
theorem F62.eq {y : Int} (h0 : 1900 ≤ y) (h1 : y ≤ 2200) : F62.f y = some (bef y) := by
 unfold F62.f bef
 rw [w64 (n := y - 1) (by omega) (by omega), w64 (n := y - 1900) (by omega) (by omega), w64 (n := 365 * (y - 1900)) (by omega) (by omega)]; rw [Int.tdiv_eq_ediv_of_nonneg (by omega), Int.tdiv_eq_ediv_of_nonneg (by omega), Int.tdiv_eq_ediv_of_nonneg (by omega)]; rw [w64 (n := (y - 1) / 4) (by omega) (by omega), w64 (n := (y - 1) / 100) (by omega) (by omega), w64 (n := (y - 1) / 400) (by omega) (by omega)]; rw [w64 (n := (y - 1) / 4 - (y - 1) / 100) (by omega) (by omega)]; rw [w64 (n := (y - 1) / 4 - (y - 1) / 100 + (y - 1) / 400) (by omega) (by omega)]; rw [w64 (n := (y - 1) / 4 - (y - 1) / 100 + (y - 1) / 400 - 474) (by omega) (by omega)]; rw [w64 (n := (y - 1) / 4 - (y - 1) / 100 + (y - 1) / 400 - 474 + 18) (by omega) (by omega)]; rw [w64 (n := (y - 1) / 4 - (y - 1) / 100 + (y - 1) / 400 - 474 + 18 - 4) (by omega) (by omega)]; rw [w64 (by omega) (by omega)]
 congr 1
 omega
theorem F73.eq {y : Int} (h0 : 1900 ≤ y) : F73.f y = some (lpv y) := by
 unfold F73.f lpv
 rw [Int.tmod_eq_emod_of_nonneg (by omega), Int.tmod_eq_emod_of_nonneg (by omega), Int.tmod_eq_emod_of_nonneg (by omega)]
 by_cases a : y % 4 = 0 <;> by_cases b : y % 100 = 0 <;> by_cases c : y % 400 = 0 <;> simp [a, b, c] <;> omega
def ml (lp : Bool) (m : Int) : Int := if m = 2 then (if lp = true then 29 else 28) else rd months (m - 1)
theorem F63.eq {y m : Int} (h0 : 1900 ≤ y) (h1 : 1 ≤ m) (h2 : m ≤ 12) : F63.f y m months = some (ml (lpv y) m) := by
 unfold F63.f ml
 rw [if_neg (by decide), if_neg (by omega), if_neg (by omega), F73.eq h0]
 by_cases e : m = 2
 ·rw [if_pos e, if_pos e, Option.bind_some]
  cases lpv y with
  | true => rfl
  | false => subst e; rfl
 ·rw [if_neg e, if_neg e]
def tl (lp : Bool) : Nat → Int
 | 0 => 0
 | j + 1 => ml lp (12 - (j : Int)) + tl lp j
theorem tl_12 (lp : Bool) : tl lp 12 = if lp = true then 366 else 365 := by cases lp <;> rfl
theorem ml_range (lp : Bool) : ∀ j : Nat, j < 12 → 28 ≤ ml lp (12 - (j : Int)) ∧ ml lp (12 - (j : Int)) ≤ 31 := by
 intro j hj; have : ∀ lp : Bool, ∀ j : Fin 12, 28 ≤ ml lp (12 - ((j.val : Nat) : Int)) ∧ ml lp (12 - ((j.val : Nat) : Int)) ≤ 31 := by decide
 exact this lp ⟨j, hj⟩
theorem F47.go1 {y : Int} (h0 : 1900 ≤ y) (d : Int) : ∀ (j : Nat) (n : Int), j ≤ 12 → 0 ≤ n → n < tl (lpv y) j → n ≤ 1000 → ∃ a b, Ev (fun k => F47.l1 k n months y (13 - (j : Int)) d) (y, a, b, 0)
 | 0, n, _, hn, h, _ => by simp [tl] at h; omega
 | j + 1, n, hj, hn, h, hn2 => by
  have hr := ml_range (lpv y) j (by omega); have e : (13 : Int) - ((j + 1 : Nat) : Int) = 12 - (j : Int) := by omega
  have hL : F63.f y (13 - ((j + 1 : Nat) : Int)) months = some (ml (lpv y) (12 - (j : Int))) := by
   rw [e]; exact F63.eq h0 (by omega) (by omega)
  by_cases c : n ≥ ml (lpv y) (12 - (j : Int))
  ·obtain ⟨a, b, ih⟩ := F47.go1 h0 d j (n - ml (lpv y) (12 - (j : Int))) (by omega) (by omega) (by simp only [tl] at h; omega) (by omega); refine ⟨a, b, Ev.succ ?_⟩; simp only [F47.l1, hL, Option.bind_some, if_pos c]; rw [w64 (n := n - _) (by omega) (by omega), w64 (n := 13 - ((j + 1 : Nat) : Int) + 1) (by omega) (by omega), show (13 : Int) - ((j + 1 : Nat) : Int) + 1 = 13 - (j : Int) by omega]; exact ih
  ·refine ⟨13 - ((j + 1 : Nat) : Int), wrap64 (n + 1), Ev.succ ?_⟩; simp only [F47.l1, hL, Option.bind_some, if_neg c]; exact Ev.const _
theorem bef_next (y : Int) : bef (y + 1) - bef y = if lpv y = true then 366 else 365 := by
 unfold bef lpv
 by_cases a : y % 4 = 0 <;> by_cases b : y % 100 = 0 <;> by_cases c : y % 400 = 0 <;> simp [a, b, c] <;> omega
theorem F47.end_ {n y : Int} (d : Int) (h0 : 1900 ≤ y) (h1 : y ≤ 2199) (hb : bef y ≤ n) (hn : n < bef (y + 1)) (hn2 : n ≤ 109572) : ∃ a b, Ev (fun k => F47.j1 k n months y 0 d) (y, a, b, 0) := by
 have hd := bef_next y; have hbb : -1000 ≤ bef y ∧ bef y ≤ 110000 := by unfold bef; omega
 obtain ⟨a, b, ih⟩ := F47.go1 h0 d 12 (n - bef y) (by omega) (by omega) (by rw [tl_12]; omega) (by split at hd <;> omega); refine ⟨a, b, Ev.succ ?_⟩; simp only [F47.j1, F62.eq h0 (by omega : y ≤ 2200), Option.bind_some]; rw [w64 (n := n - _) (by omega) (by omega)]; exact ih
theorem F47.go0 {n : Int} (d : Int) (hn2 : n ≤ 109572) : ∀ (j : Nat) (y : Int), y + j = 2199 → 1900 ≤ y → bef y ≤ n → ∃ y' a b, Ev (fun k => F47.l0 k n months y 0 d) (y', a, b, 0)
 | 0, y, hy, h0, hb => by
  obtain rfl : y = 2199 := by omega
  obtain ⟨a, b, ih⟩ := F47.end_ (n := n) d (y := 2199) (by omega) (by omega) hb (by rw [show bef (2199 + 1) = 109573 by decide]; omega) hn2; refine ⟨2199, a, b, Ev.succ ?_⟩; simp only [F47.l0, if_neg (show ¬ (2199 : Int) < 2199 by omega)]; exact ih
 | j + 1, y, hy, h0, hb => by
  by_cases c : bef (y + 1) ≤ n
  ·obtain ⟨y', a, b, ih⟩ := F47.go0 d hn2 j (y + 1) (by omega) (by omega) c; refine ⟨y', a, b, Ev.succ ?_⟩; simp only [F47.l0, if_pos (show y < 2199 by omega), w64 (n := y + 1) (by omega) (by omega), F62.eq (y := y + 1) (by omega) (by omega), Option.bind_some, if_pos c]; exact ih
  ·obtain ⟨a, b, ih⟩ := F47.end_ (n := n) d (y := y) h0 (by omega) hb (by omega) hn2; refine ⟨y, a, b, Ev.succ ?_⟩; simp only [F47.l0, if_pos (show y < 2199 by omega), w64 (n := y + 1) (by omega) (by omega), F62.eq (y := y + 1) (by omega) (by omega), Option.bind_some, if_neg c]; exact ih
theorem F61.eq (n : Int) : F61.f n = some (dayv n) := by
 unfold F61.f dayv
 by_cases a : n ≥ 0 <;> by_cases b : n ≤ 109572 <;> simp [a, b] <;> omega
theorem F47.ok (n : Int) : ∃ y a b, Ev (fun k => F47.f k n months) (y, a, b, if dayv n = true then 0 else 11) := by
 unfold F47.f
 simp only [F61.eq, Option.bind_some]
 by_cases c : dayv n = true
 ·simp only [if_pos c]; have hc : 0 ≤ n ∧ n ≤ 109572 := of_decide_eq_true c; have hy : bef (1900 + n / 366) ≤ n := by unfold bef; omega
  rw [Int.tdiv_eq_ediv_of_nonneg hc.1, w64 (n := n / 366) (by omega) (by omega), w64 (n := 1900 + n / 366) (by omega) (by omega)]; exact F47.go0 0 hc.2 (2199 - (1900 + n / 366)).toNat _ (by omega) (by omega) hy
 ·simp only [if_neg c]; exact ⟨0, 0, 0, Ev.const _⟩
abbrev MV := S23
theorem wfm {x : Int} (h : (Lit.int .i64 x).wf = true) : -9223372036854775808 ≤ x ∧ x ≤ 9223372036854775807 := by
 have e1 : IntKind.i64.min = -9223372036854775808 := by decide
 have e2 : IntKind.i64.max = 9223372036854775807 := by decide
 simp [Lit.wf, e1, e2] at h
 exact h
def folv (k : Int) : Bool := k == 3 || (k == 4 || k == 5)
def inv (n lo hi : Int) : Bool := decide (lo ≤ n ∧ n ≤ hi)
def qtyv (kind q : Int) : Bool := if kind = 5 ∨ kind = 6 then q == 0 else inv q 1 1000000000
def cstv (kind c : Int) : Bool := if kind = 2 ∨ kind = 3 then c == 0 else if kind = 5 then inv c 1 1000000000000 else inv c 0 1000000000000
def lotv (kind : Int) (b : ByteArray) : Bool := decide (b.toList = ([] : List UInt8)) || (codev b && (kind == 1 || kind == 2))
def rfv (kind r : Int) : Bool := if folv kind = true then decide (1 ≤ r) else r == 0
def onev (value : Int) (item : ByteArray) (kind qty cost : Int) (lot : ByteArray) (ref : Int) : Int :=
 if dayv value = false then 11 else if codev item = false then 7 else if inv kind 1 6 = false then 10 else if (qtyv kind qty && cstv kind cost) = false then 3 else if lotv kind lot = false then 22 else if rfv kind ref = false then 28 else 0
theorem F25.eq (n : Int) : Ev (fun k => F25.f k n months) (dayv n) := by
 obtain ⟨y, a, b, h⟩ := F47.ok n
 unfold F25.f
 refine Ev.bind h ?_
 cases dayv n <;> exact Ev.const _
theorem F27.eq (n lo hi : Int) : F27.f n lo hi = some (inv n lo hi) := by
 unfold F27.f inv
 by_cases a : n ≥ lo
 ·rw [if_pos a]; congr 1; simp [show lo ≤ n from a]
 ·rw [if_neg a]; congr 1; simp [show ¬ lo ≤ n from a]
theorem F31.eq (n : Int) : F31.f n = some (folv n) := by
 unfold F31.f folv
 by_cases a : n = 3
 ·simp [a]
 ·by_cases b : n = 4
  ·simp [b]
  ·simp [a, b, beq_eq_false_iff_ne.2 a, beq_eq_false_iff_ne.2 b]
theorem F36.eq (n : Int) : F36.f n = some (folv n) := by
 unfold F36.f folv
 by_cases a : n = 3
 ·simp [a]
 ·by_cases b : n = 4
  ·simp [b]
  ·simp [a, b, beq_eq_false_iff_ne.2 a, beq_eq_false_iff_ne.2 b]
theorem F28.eq (a b : Int) (c : ByteArray) (kind qty e : Int) (f : ByteArray) (g : Int) : F28.f a b c kind qty e f g = some (qtyv kind qty) := by
 unfold F28.f qtyv
 by_cases x : kind = 5 <;> by_cases y : kind = 6 <;> simp [x, y, F27.eq]
theorem F29.eq (a b : Int) (c : ByteArray) (kind qty e : Int) (f : ByteArray) (g : Int) : Ev (fun k => F29.f k a b c kind qty e f g) (cstv kind e) := by
 unfold F29.f cstv
 by_cases x : kind = 2
 ·simp only [if_pos x, if_pos (show kind = 2 ∨ kind = 3 from .inl x)]; refine Ev.succ ?_; simp only [F29.j0, x, if_true, beq_self_eq_true]; exact Ev.const _
 ·simp only [if_neg x]; refine Ev.succ ?_
  by_cases y : kind = 3
  ·simp only [F29.j0, y, if_true, beq_self_eq_true, if_pos (show (3 : Int) = 2 ∨ (3 : Int) = 3 from .inr rfl)]; exact Ev.const _
  ·simp only [F29.j0, beq_eq_false_iff_ne.2 y, Bool.false_eq_true, if_false, if_neg (show ¬ (kind = 2 ∨ kind = 3) by simp [x, y]), F27.eq, Option.bind_some]
   by_cases z : kind = 5
   ·simp only [if_pos z]; exact Ev.const _
   ·simp only [if_neg z]; exact Ev.const _
theorem F30.eq (a b : Int) (c : ByteArray) (kind qty e : Int) (f : ByteArray) (g : Int) : Ev (fun k => F30.f k a b c kind qty e f g) (lotv kind f) := by
 unfold F30.f lotv
 by_cases x : f.toList = ([] : List UInt8)
 ·simp only [if_pos x, decide_eq_true x, Bool.true_or]; exact Ev.const _
 ·simp only [if_neg x, decide_eq_false x, Bool.false_or]; refine Ev.bind (F26.eq f) ?_
  cases codev f with
  | false => exact Ev.const _
  | true =>
   simp only [if_true, Bool.true_and]
   by_cases y : kind = 1
   ·simp only [if_pos y, y, beq_self_eq_true, Bool.true_or]; exact Ev.const _
   ·simp only [if_neg y, beq_eq_false_iff_ne.2 y, Bool.false_or]; exact Ev.const _
theorem bnot {b : Bool} (h : ¬ b = true) : b = false := by simpa using h
theorem F12.eq (a value : Int) (item : ByteArray) (kind qty cost : Int) (lot : ByteArray) (ref : Int) : Ev (fun k => F12.f k a value item kind qty cost lot ref months) (onev value item kind qty cost lot ref) := by
 unfold F12.f onev
 refine Ev.bind (F25.eq value) ?_
 by_cases c1 : dayv value = true
 rotate_left
 ·simp only [if_neg c1, bnot c1, if_true]; exact Ev.const _
 simp only [if_pos c1, c1, Bool.true_eq_false, if_false]; refine Ev.bind (F26.eq item) ?_
 by_cases c2 : codev item = true
 rotate_left
 ·simp only [if_neg c2, bnot c2, if_true]; exact Ev.const _
 simp only [if_pos c2, c2, Bool.true_eq_false, if_false, F27.eq, Option.bind_some]
 by_cases c3 : inv kind 1 6 = true
 rotate_left
 ·simp only [if_neg c3, bnot c3, if_true]; exact Ev.const _
 simp only [if_pos c3, c3, Bool.true_eq_false, if_false, F28.eq, Option.bind_some]
 by_cases c4 : qtyv kind qty = true
 rotate_left
 ·simp only [if_neg c4, bnot c4, Bool.false_and, if_true]; refine Ev.succ ?_; simp only [F12.j0, if_true]; exact Ev.const _
 simp only [if_pos c4, c4, Bool.true_and]; refine Ev.bind (F29.eq _ _ _ _ _ _ _ _) ?_
 by_cases c5 : cstv kind cost = true
 rotate_left
 ·simp only [bnot c5, if_true]; refine Ev.succ ?_; simp only [F12.j0, Bool.not_false, if_true]; exact Ev.const _
 simp only [c5, Bool.true_eq_false, if_false]; refine Ev.succ ?_; simp only [F12.j0, Bool.not_true, Bool.false_eq_true, if_false, F31.eq, Option.bind_some]; refine Ev.bind (F30.eq _ _ _ _ _ _ _ _) ?_
 by_cases c6 : lotv kind lot = true
 rotate_left
 ·simp only [if_neg c6, bnot c6, if_true]; exact Ev.const _
 simp only [if_pos c6, c6, Bool.true_eq_false, if_false]
 unfold rfv
 by_cases c7 : folv kind = true
 ·simp only [if_pos c7]
  by_cases c8 : ref < 1
  ·simp only [if_pos c8, decide_eq_false (show ¬ 1 ≤ ref by omega), if_true]; exact Ev.const _
  ·simp only [if_neg c8, decide_eq_true (show 1 ≤ ref by omega), Bool.true_eq_false, if_false]; exact Ev.const _
 ·simp only [if_neg c7]
  by_cases c8 : ref = 0
  ·simp only [if_pos c8, c8, beq_self_eq_true, Bool.true_eq_false, if_false]; exact Ev.const _
  ·simp only [if_neg c8, beq_eq_false_iff_ne.2 c8, if_true]; exact Ev.const _
theorem F32.eq (n : Int) : F32.f n = some (dayv n) := by
 unfold F32.f dayv
 by_cases a : n ≥ 0
 ·rw [if_pos a]; congr 1; simp [show 0 ≤ n from a]
 ·rw [if_neg a]; congr 1; simp [show ¬ 0 ≤ n from a]
theorem F34.eq (a b : Int) (c : ByteArray) (kind qty e : Int) (f : ByteArray) (g : Int) (hk : inv kind 1 6 = true) : F34.f a b c kind qty e f g = some (qtyv kind qty) := by
 have hk : 1 ≤ kind ∧ kind ≤ 6 := of_decide_eq_true hk
 unfold F34.f F54.f qtyv
 by_cases x : kind = 5 ∨ kind = 6
 ·rw [if_pos x]
  simp [show ¬ kind ≤ 4 by omega, show kind ≥ 1 by omega]
 ·rw [if_neg x]; simp only [if_pos (show kind ≥ 1 by omega), decide_eq_true (show kind ≤ 4 by omega), Option.bind_some, if_true, inv]
  by_cases q : qty ≥ 1
  ·rw [if_pos q]; congr 1; simp [show 1 ≤ qty from q]
  ·rw [if_neg q]; congr 1; simp [show ¬ 1 ≤ qty from q]
theorem F35.eq (a b : Int) (c : ByteArray) (kind qty e : Int) (f : ByteArray) (g : Int) : Ev (fun k => F35.f k a b c kind qty e f g) (cstv kind e) := by
 unfold F35.f cstv
 by_cases x : kind = 2
 ·simp only [if_pos x, if_pos (show kind = 2 ∨ kind = 3 from .inl x)]; refine Ev.succ ?_; simp only [F35.j0, x, if_true, beq_self_eq_true]; exact Ev.const _
 ·simp only [if_neg x]; refine Ev.succ ?_
  by_cases y : kind = 3
  ·simp only [F35.j0, y, if_true, beq_self_eq_true, if_pos (show (3 : Int) = 2 ∨ (3 : Int) = 3 from .inr rfl)]; exact Ev.const _
  ·simp only [F35.j0, beq_eq_false_iff_ne.2 y, Bool.false_eq_true, if_false, if_neg (show ¬ (kind = 2 ∨ kind = 3) by simp [x, y])]
   by_cases z : kind = 5
   ·simp only [if_pos z]
    unfold inv
    by_cases q : e ≥ 1
    ·simp only [if_pos q]; simp only [show (1 ≤ e ∧ e ≤ 1000000000000) = (e ≤ 1000000000000) by simp [show 1 ≤ e from q]]; exact Ev.const _
    ·simp only [if_neg q, decide_eq_false (show ¬ (1 ≤ e ∧ e ≤ 1000000000000) by omega)]; exact Ev.const _
   ·simp only [if_neg z]
    unfold inv
    by_cases q : e ≥ 0
    ·simp only [if_pos q]; simp only [show (0 ≤ e ∧ e ≤ 1000000000000) = (e ≤ 1000000000000) by simp [show 0 ≤ e from q]]; exact Ev.const _
    ·simp only [if_neg q, decide_eq_false (show ¬ (0 ≤ e ∧ e ≤ 1000000000000) by omega)]; exact Ev.const _
theorem F13.j2_eq (bl : Bool) (a value : Int) (item : ByteArray) (kind qty cost : Int) (lot : ByteArray) (ref : Int) : Ev (fun k => F13.j2 k bl a value item kind qty cost lot ref) (if bl = true then 22 else if rfv kind ref = false then 28 else 0) := by
 refine Ev.succ ?_
 cases bl with
 | true => simp only [F13.j2, if_true]; exact Ev.const _
 | false =>
  simp only [F13.j2, Bool.false_eq_true, if_false, F36.eq, Option.bind_some]
  unfold rfv
  by_cases c7 : folv kind = true
  ·simp only [if_pos c7]
   by_cases c8 : ref < 1
   ·simp only [if_pos c8, decide_eq_false (show ¬ 1 ≤ ref by omega), if_true]; exact Ev.const _
   ·simp only [if_neg c8, decide_eq_true (show 1 ≤ ref by omega), Bool.true_eq_false, if_false]; exact Ev.const _
  ·simp only [if_neg c7]
   by_cases c8 : ref = 0
   ·simp only [if_pos c8, c8, beq_self_eq_true, Bool.true_eq_false, if_false]; exact Ev.const _
   ·simp only [if_neg c8, beq_eq_false_iff_ne.2 c8, if_true]; exact Ev.const _
theorem F13.eq (a value : Int) (item : ByteArray) (kind qty cost : Int) (lot : ByteArray) (ref : Int) (hi : item.size ≤ 1000000000000000) (hl : lot.size ≤ 1000000000000000) : Ev (fun k => F13.f k a value item kind qty cost lot ref) (onev value item kind qty cost lot ref) := by
 unfold F13.f onev
 simp only [F32.eq, Option.bind_some]
 by_cases c1 : dayv value = true
 rotate_left
 ·simp only [if_neg c1, bnot c1, if_true]; exact Ev.const _
 simp only [if_pos c1, c1, Bool.true_eq_false, if_false]; refine Ev.bind (F33.eq item hi) ?_
 by_cases c2 : codev item = true
 rotate_left
 ·simp only [if_neg c2, bnot c2, if_true]; exact Ev.const _
 simp only [if_pos c2, c2, Bool.true_eq_false, if_false]
 by_cases c3 : inv kind 1 6 = true
 rotate_left
 ·simp only [bnot c3, if_true]; have hk : ¬ (1 ≤ kind ∧ kind ≤ 6) := of_decide_eq_false (bnot c3)
  by_cases d : kind < 1
  ·simp only [if_pos d]; refine Ev.succ ?_; simp only [F13.j0, if_true]; exact Ev.const _
  ·simp only [if_neg d, decide_eq_true (show kind > 6 by omega)]; refine Ev.succ ?_; simp only [F13.j0, if_true]; exact Ev.const _
 have hk : 1 ≤ kind ∧ kind ≤ 6 := of_decide_eq_true c3; simp only [c3, Bool.true_eq_false, if_false, if_neg (show ¬ kind < 1 by omega), decide_eq_false (show ¬ kind > 6 by omega)]; refine Ev.succ ?_; simp only [F13.j0, Bool.false_eq_true, if_false, F34.eq _ _ _ _ _ _ _ _ c3, Option.bind_some]
 by_cases c4 : qtyv kind qty = true
 rotate_left
 ·simp only [if_neg c4, bnot c4, Bool.false_and, if_true]; refine Ev.succ ?_; simp only [F13.j1, if_true]; exact Ev.const _
 simp only [if_pos c4, c4, Bool.true_and]; refine Ev.bind (F35.eq _ _ _ _ _ _ _ _) ?_
 by_cases c5 : cstv kind cost = true
 rotate_left
 ·simp only [bnot c5, if_true]; refine Ev.succ ?_; simp only [F13.j1, Bool.not_false, if_true]; exact Ev.const _
 simp only [c5, Bool.true_eq_false, if_false]; refine Ev.succ ?_; simp only [F13.j1, Bool.not_true, Bool.false_eq_true, if_false]
 unfold lotv
 by_cases c6 : lot.toList = ([] : List UInt8)
 ·simp only [if_pos c6, decide_eq_true c6, Bool.true_or, Bool.true_eq_false, if_false]; exact F13.j2_eq false _ _ _ _ _ _ _ _
 ·simp only [if_neg c6, decide_eq_false c6, Bool.false_or]; refine Ev.bind (F33.eq lot hl) ?_
  cases codev lot with
  | false =>
   simp only [Bool.false_eq_true, if_false, Bool.false_and, if_true]; exact F13.j2_eq true _ _ _ _ _ _ _ _
  | true =>
   simp only [if_true, Bool.true_and]
   by_cases d : kind > 2
   ·simp only [decide_eq_true d, beq_eq_false_iff_ne.2 (show kind ≠ 1 by omega), beq_eq_false_iff_ne.2 (show kind ≠ 2 by omega), Bool.false_or, if_true]; exact F13.j2_eq true _ _ _ _ _ _ _ _
   ·simp only [decide_eq_false d, show (kind == 1 || kind == 2) = true by simp; omega, Bool.true_eq_false, if_false]; exact F13.j2_eq false _ _ _ _ _ _ _ _
abbrev rdv (l : List MV) (i : Int) : MV := rd_T23 l i
theorem rdv_at (P R : List MV) (m : MV) (i : Int) (h : i = (P.length : Int)) : rdv (P ++ m :: R) i = m := by
 subst h; simp [rdv, rd_T23]
theorem rdv_mem {l : List MV} {i : Int} (h0 : 0 ≤ i) (h1 : i < l.length) : rdv l i ∈ l := by
 obtain ⟨n, rfl⟩ := Int.eq_ofNat_of_zero_le h0; have hn : n < l.length := by omega
 show l.getD (n : Int).toNat _ ∈ l; rw [Int.toNat_natCast, List.getD_eq_getElem?_getD, List.getElem?_eq_getElem hn]; exact List.getElem_mem hn
def onem (m : MV) : Int := onev m.f1 m.f2 m.f3 m.f4 m.f5 m.f6 m.f7
theorem onev_zero {value : Int} {item : ByteArray} {kind qty cost : Int} {lot : ByteArray} {ref : Int} (h : onev value item kind qty cost lot ref = 0) : dayv value = true ∧ codev item = true ∧ inv kind 1 6 = true ∧ qtyv kind qty = true ∧ cstv kind cost = true ∧ lotv kind lot = true ∧ rfv kind ref = true := by
 unfold onev at h
 by_cases c1 : dayv value = false
 ·rw [if_pos c1] at h; omega
 rw [if_neg c1] at h
 by_cases c2 : codev item = false
 ·rw [if_pos c2] at h; omega
 rw [if_neg c2] at h
 by_cases c3 : inv kind 1 6 = false
 ·rw [if_pos c3] at h; omega
 rw [if_neg c3] at h
 by_cases c4 : (qtyv kind qty && cstv kind cost) = false
 ·rw [if_pos c4] at h; omega
 rw [if_neg c4] at h
 by_cases c5 : lotv kind lot = false
 ·rw [if_pos c5] at h; omega
 rw [if_neg c5] at h
 by_cases c6 : rfv kind ref = false
 ·rw [if_pos c6] at h; omega
 have c4 : (qtyv kind qty && cstv kind cost) = true := by simpa using c4
 rw [Bool.and_eq_true] at c4; exact ⟨by simpa using c1, by simpa using c2, by simpa using c3, c4.1, c4.2, by simpa using c5, by simpa using c6⟩
theorem onev_ok {value : Int} {item : ByteArray} {kind qty cost : Int} {lot : ByteArray} {ref : Int} (h1 : dayv value = true) (h2 : codev item = true) (h3 : inv kind 1 6 = true) (h4 : qtyv kind qty = true) (h5 : cstv kind cost = true) (h6 : lotv kind lot = true) (h7 : rfv kind ref = true) : onev value item kind qty cost lot ref = 0 := by
 unfold onev
 simp [h1, h2, h3, h4, h5, h6, h7]
theorem qty_range {m : MV} (h : onem m = 0) : 0 ≤ m.f4 ∧ m.f4 ≤ 1000000000 ∧ (m.f3 = 5 → m.f4 = 0) ∧ (m.f3 = 1 → 1 ≤ m.f4) ∧ (folv m.f3 = true → 1 ≤ m.f7) := by
 obtain ⟨_, _, h3, h4, _, _, h7⟩ := onev_zero h
 unfold qtyv at h4
 have h8 : folv m.f3 = true → 1 ≤ m.f7 := by
  intro hf
  unfold rfv at h7
  rw [if_pos hf] at h7; exact of_decide_eq_true h7
 by_cases c : m.f3 = 5 ∨ m.f3 = 6
 ·rw [if_pos c] at h4; have := eq_of_beq h4; exact ⟨by omega, by omega, fun _ => this, by omega, h8⟩
 ·rw [if_neg c] at h4; have := of_decide_eq_true h4; exact ⟨by omega, by omega, by omega, by omega, h8⟩
def qsum : List MV → Int → Int → Int
 | [], _, _ => 0
 | y :: r, kind, ref => (if y.f3 = kind ∧ y.f7 = ref then y.f4 else 0) + qsum r kind ref
theorem qsum_app (P : List MV) (m : MV) (kind ref : Int) : qsum (P ++ [m]) kind ref = qsum P kind ref + if m.f3 = kind ∧ m.f7 = ref then m.f4 else 0 := by
 induction P with
 | nil => simp [qsum]
 | cons y r ih => simp only [List.cons_append, qsum, ih]; omega
def Good (P : List MV) : Prop := ∀ y ∈ P, onem y = 0
theorem Good.app {P : List MV} {m : MV} (h : Good P) (hm : onem m = 0) : Good (P ++ [m]) := by
 intro y hy
 rcases List.mem_append.1 hy with h1 | h1
 ·exact h y h1
 ·rw [List.mem_singleton.1 h1]; exact hm
theorem qsum_range : ∀ (P : List MV) (kind ref : Int), Good P → 0 ≤ qsum P kind ref ∧ qsum P kind ref ≤ 1000000000 * (P.length : Int) ∧ (kind = 5 → qsum P kind ref = 0)
 | [], kind, ref, _ => by simp [qsum]
 | y :: r, kind, ref, h => by
  have ih := qsum_range r kind ref (fun z hz => h z (List.mem_cons_of_mem _ hz)); have hy := qty_range (h y (List.mem_cons_self)); simp only [qsum, List.length_cons]
  by_cases c : y.f3 = kind ∧ y.f7 = ref
  ·rw [if_pos c]; refine ⟨by omega, by omega, fun k5 => ?_⟩; have := ih.2.2 k5; have := hy.2.2.1 (by omega)
   omega
  ·rw [if_neg c]; refine ⟨by omega, by omega, fun k5 => ?_⟩; have := ih.2.2 k5
   omega
def trg (kind : Int) : Int := if kind = 3 then 2 else 1
def refv (P : List MV) (m : MV) : Int :=
 if m.f7 > (P.length : Int) then 28
 else if (rdv P (m.f7 - 1)).f2.toList = m.f2.toList ∧ (rdv P (m.f7 - 1)).f3 = trg m.f3 then
  (if m.f1 < (rdv P (m.f7 - 1)).f1 then 17 else if ¬ m.f3 = 5 ∧ m.f4 + qsum P m.f3 m.f7 > (rdv P (m.f7 - 1)).f4 then 21 else 0)
 else 28
def chkv (P : List MV) : List MV → Int × Int
 | [] => (-1, 0)
 | m :: r => if m.f0 = (P.length : Int) + 1 then (if onem m = 0 then (if folv m.f3 = true then (if refv P m = 0 then chkv (P ++ [m]) r else ((P.length : Int), refv P m)) else chkv (P ++ [m]) r) else ((P.length : Int), onem m)) else ((P.length : Int), 17)
def Checkv (l : List MV) : Int × Int := if (l.length : Int) > 2000 then (0, 9) else chkv [] l
def MapOk (L : Rmap) (P : List MV) : Prop := ∀ kind ref, folv kind = true → (aget L (kind, ref)).getD 0 = qsum P kind ref
theorem aget_aput_other {κ ν : Type} [DecidableEq κ] (k k' : κ) (v : ν) (h : k ≠ k') : ∀ L : List (κ × ν), aget (aput L k v) k' = aget L k'
 | [] => by simp [aput, aget, h]
 | p :: r => by
  unfold aput
  by_cases c : p.1 = k
  ·simp only [c, if_true, aget, if_neg h]
  ·simp only [if_neg c, aget, aget_aput_other k k' v h r]
theorem F55.eq (n : Int) : F55.f n = some (trg n) := by
 unfold F55.f trg
 by_cases h : n = 3 <;> simp [h]
theorem F37.eq {P : List MV} {m : MV} {L : Rmap} (hP : Good P) (hl : P.length ≤ 2000) (hm : onem m = 0) (hf : folv m.f3 = true) (hL : MapOk L P) :
  ∃ L', F37.f P m L = some (refv P m, L') ∧ (refv P m = 0 → MapOk L' (P ++ [m])) := by
 have hq := qty_range hm; have h7 := hq.2.2.2.2 hf; have hs := qsum_range P m.f3 m.f7 hP
 unfold F37.f refv
 by_cases c1 : m.f7 > (P.length : Int)
 ·simp only [if_pos c1]; exact ⟨L, rfl, by omega⟩
 simp only [if_neg c1, if_neg (show ¬ m.f7 < 1 by omega), F55.eq, Option.bind_some]
 by_cases c2 : (rdv P (m.f7 - 1)).f2.toList = m.f2.toList
 rotate_left
 ·simp only [if_neg c2, if_neg (show ¬ ((rdv P (m.f7 - 1)).f2.toList = m.f2.toList ∧ (rdv P (m.f7 - 1)).f3 = trg m.f3) from fun h => c2 h.1)]; exact ⟨L, rfl, by omega⟩
 by_cases c3 : (rdv P (m.f7 - 1)).f3 = trg m.f3
 rotate_left
 ·simp only [if_pos c2, if_neg c3, if_neg (show ¬ ((rdv P (m.f7 - 1)).f2.toList = m.f2.toList ∧ (rdv P (m.f7 - 1)).f3 = trg m.f3) from fun h => c3 h.2)]; exact ⟨L, rfl, by omega⟩
 simp only [if_pos c2, if_pos c3, if_pos (show (rdv P (m.f7 - 1)).f2.toList = m.f2.toList ∧ (rdv P (m.f7 - 1)).f3 = trg m.f3 from ⟨c2, c3⟩)]
 by_cases c4 : m.f1 < (rdv P (m.f7 - 1)).f1
 ·simp only [if_pos c4]; exact ⟨L, rfl, by omega⟩
 simp only [if_neg c4]; have hx : onem (rdv P (m.f7 - 1)) = 0 := hP _ (rdv_mem (by omega) (by omega)); have hxq := qty_range hx; have e : (aget L (m.f3, m.f7)).getD 0 = qsum P m.f3 m.f7 := hL _ _ hf; rw [e, w64 (n := qsum P m.f3 m.f7 + m.f4) (by omega) (by omega)]
 have ok : MapOk (aput L (m.f3, m.f7) (qsum P m.f3 m.f7 + m.f4)) (P ++ [m]) := by
  intro kind ref hk; rw [qsum_app]
  by_cases d : m.f3 = kind ∧ m.f7 = ref
  ·rw [if_pos d, ← d.1, ← d.2, aget_aput_same]; rfl
  ·rw [if_neg d, aget_aput_other _ _ _ (by intro h; exact d (Prod.mk.inj h)), hL _ _ hk, Int.add_zero]
 by_cases c5 : m.f3 = 5
 ·have h0 : qsum P m.f3 m.f7 + m.f4 = 0 := by have := hs.2.2 c5; have := hq.2.2.1 c5; omega
  have hx1 : 1 ≤ (rdv P (m.f7 - 1)).f4 := hxq.2.2.2.1 (by rw [c3, c5]; rfl); have h9 : ¬ qsum P m.f3 m.f7 + m.f4 > (rdv P (m.f7 - 1)).f4 := by omega
  simp only [if_neg (show ¬ (¬ m.f3 = 5 ∧ m.f4 + qsum P m.f3 m.f7 > (rdv P (m.f7 - 1)).f4) from fun h => h.1 c5), if_neg h9]; exact ⟨_, rfl, fun _ => ok⟩
 ·by_cases c6 : qsum P m.f3 m.f7 + m.f4 > (rdv P (m.f7 - 1)).f4
  ·simp only [if_pos c6, if_pos (show ¬ m.f3 = 5 ∧ m.f4 + qsum P m.f3 m.f7 > (rdv P (m.f7 - 1)).f4 from ⟨c5, by omega⟩)]; exact ⟨_, rfl, by omega⟩
  ·simp only [if_neg c6, if_neg (show ¬ (¬ m.f3 = 5 ∧ m.f4 + qsum P m.f3 m.f7 > (rdv P (m.f7 - 1)).f4) from fun h => c6 (by omega))]; exact ⟨_, rfl, fun _ => ok⟩
theorem F14.go (l : List MV) (hl : l.length ≤ 2000) : ∀ (R P : List MV) (L : Rmap), P ++ R = l → Good P → MapOk L P → Ev (fun k => chkL k months l R P.length L) (chkv P R)
 | [], P, L, _, _, _ => by simp only [chkL, chkv]; exact Ev.const _
 | m :: R, P, L, e, hP, hL => by
  have hPl : P.length ≤ 2000 := by rw [← e, List.length_append] at hl; omega
  have ht : l.take P.length = P := by rw [← e]; simp
  have hn : (P ++ [m]).length = P.length + 1 := by simp
  simp only [chkL, chkv]
  by_cases c1 : m.f0 = (P.length : Int) + 1
  rotate_left
  ·simp only [if_neg c1]; exact Ev.const _
  simp only [if_pos c1]; refine Ev.bind (F12.eq m.f0 m.f1 m.f2 m.f3 m.f4 m.f5 m.f6 m.f7) ?_; show Ev (fun k => if onem m = 0 then _ else _) _
  by_cases c2 : onem m = 0
  rotate_left
  ·simp only [if_neg c2]; exact Ev.const _
  simp only [if_pos c2, F31.eq, Option.bind_some]
  by_cases c3 : folv m.f3 = true
  ·simp only [if_pos c3, ht]; obtain ⟨L', h1, h2⟩ := F37.eq hP hPl c2 c3 hL; simp only [h1, Option.bind_some]
   by_cases c4 : refv P m = 0
   ·simp only [if_pos c4]; rw [← hn]; exact F14.go l hl R (P ++ [m]) L' (by simpa using e) (hP.app c2) (h2 c4)
   ·simp only [if_neg c4]; exact Ev.const _
  ·simp only [if_neg c3]; rw [← hn]; refine F14.go l hl R (P ++ [m]) L (by simpa using e) (hP.app c2) ?_; intro kind ref hk; rw [qsum_app, if_neg (fun h => c3 (by rw [h.1]; exact hk)), hL _ _ hk, Int.add_zero]
theorem F14.eq (l : List MV) : Ev (fun k => F14.f k l months) (Checkv l) := by
 unfold F14.f Checkv
 by_cases c : l.length > 2000
 ·simp only [if_pos c, if_pos (show (l.length : Int) > 2000 by omega)]; exact Ev.const _
 ·simp only [if_neg c, if_neg (show ¬ (l.length : Int) > 2000 by omega)]; exact F14.go l (by omega) l [] [] rfl (by intro y hy; simp at hy) (by intro a b _; rfl)
theorem F38.go (m x : MV) : ∀ (B A : List MV) (q i : Int), i = (A.length : Int) → Good (A ++ B) → (A ++ B).length ≤ 2000 → 0 ≤ q → q ≤ 1000000000 * (A.length : Int) + 1000000000 →
  Ev (fun k => F38.l0 k (A ++ B) q i m.f0 m.f1 m.f2 m.f3 m.f4 m.f5 m.f6 m.f7 x.f0 x.f1 x.f2 x.f3 x.f4 x.f5 x.f6 x.f7) (if ¬ m.f3 = 5 ∧ q + qsum B m.f3 m.f7 > x.f4 then 21 else 0)
 | [], A, q, i, hi, _, hl, h0, h1 => by
  refine Ev.succ ?_; simp only [List.append_nil] at hl ⊢; simp only [F38.l0, if_neg (show ¬ i < (A.length : Int) by omega), qsum, Int.add_zero]
  by_cases c : m.f3 = 5
  ·simp only [if_pos c, if_neg (show ¬ (¬ m.f3 = 5 ∧ q > x.f4) from fun h => h.1 c)]; exact Ev.const _
  ·simp only [if_neg c]
   by_cases d : q > x.f4
   ·simp only [if_pos d, if_pos (show ¬ m.f3 = 5 ∧ q > x.f4 from ⟨c, d⟩)]; exact Ev.const _
   ·simp only [if_neg d, if_neg (show ¬ (¬ m.f3 = 5 ∧ q > x.f4) from fun h => d h.2)]; exact Ev.const _
 | y :: B, A, q, i, hi, hg, hl, h0, h1 => by
  have hy := qty_range (hg y (by simp)); have hl2 : A.length + (B.length + 1) ≤ 2000 := by simpa using hl
  have ih : ∀ q', 0 ≤ q' → q' ≤ 1000000000 * (A.length : Int) + 2000000000 → _ := fun q' a b => F38.go m x B (A ++ [y]) q' (i + 1) (by simp; omega) (by simpa using hg) (by simpa using hl) a (by simp; omega); refine Ev.succ ?_; simp only [F38.l0, if_pos (show i < ((A ++ y :: B).length : Int) by simp; omega), if_pos (show (0 : Int) ≤ i by omega)]; rw [show rd_T23 (A ++ y :: B) i = y from rdv_at A B y i hi, w64 (n := i + 1) (by omega) (by omega)]; rw [show A ++ y :: B = (A ++ [y]) ++ B by simp]; simp only [qsum]
  by_cases c : y.f3 = m.f3
  ·simp only [if_pos c]
   by_cases d : y.f7 = m.f7
   ·simp only [if_pos d, if_pos (show y.f3 = m.f3 ∧ y.f7 = m.f7 from ⟨c, d⟩)]; rw [w64 (n := q + y.f4) (by omega) (by omega), ← Int.add_assoc]; exact ih (q + y.f4) (by omega) (by omega)
   ·simp only [if_neg d, if_neg (show ¬ (y.f3 = m.f3 ∧ y.f7 = m.f7) from fun h => d h.2), Int.zero_add]; exact ih q (by omega) (by omega)
  ·simp only [if_neg c, if_neg (show ¬ (y.f3 = m.f3 ∧ y.f7 = m.f7) from fun h => c h.1), Int.zero_add]; exact ih q (by omega) (by omega)
theorem F38.eq {P : List MV} {m : MV} (hP : Good P) (hl : P.length ≤ 2000) (hm : onem m = 0) (hf : folv m.f3 = true) :
  Ev (fun k => F38.f k P m.f0 m.f1 m.f2 m.f3 m.f4 m.f5 m.f6 m.f7) (refv P m) := by
 have hq := qty_range hm; have h7 := hq.2.2.2.2 hf
 unfold F38.f refv
 by_cases c1 : m.f7 > (P.length : Int)
 ·simp only [if_pos c1]; exact Ev.const _
 simp only [if_neg c1]; rw [w64 (n := m.f7 - 1) (by omega) (by omega)]; simp only [if_pos (show (0 : Int) ≤ m.f7 - 1 by omega), if_pos (show m.f7 - 1 < (P.length : Int) by omega)]
 have fin : ∀ t : Int, t = trg m.f3 → Ev (fun k => F38.j0 k P t m.f0 m.f1 m.f2 m.f3 m.f4 m.f5 m.f6 m.f7 (rdv P (m.f7 - 1)).f0 (rdv P (m.f7 - 1)).f1 (rdv P (m.f7 - 1)).f2 (rdv P (m.f7 - 1)).f3 (rdv P (m.f7 - 1)).f4 (rdv P (m.f7 - 1)).f5 (rdv P (m.f7 - 1)).f6 (rdv P (m.f7 - 1)).f7)
   (if (rdv P (m.f7 - 1)).f2.toList = m.f2.toList ∧ (rdv P (m.f7 - 1)).f3 = trg m.f3 then (if m.f1 < (rdv P (m.f7 - 1)).f1 then 17 else if ¬ m.f3 = 5 ∧ m.f4 + qsum P m.f3 m.f7 > (rdv P (m.f7 - 1)).f4 then 21 else 0) else 28) := by
  intro t ht; subst ht; refine Ev.succ ?_
  by_cases c2 : (rdv P (m.f7 - 1)).f2.toList = m.f2.toList
  rotate_left
  ·simp only [F38.j0, if_neg c2, if_neg (show ¬ ((rdv P (m.f7 - 1)).f2.toList = m.f2.toList ∧ (rdv P (m.f7 - 1)).f3 = trg m.f3) from fun h => c2 h.1)]; refine Ev.succ ?_; simp only [F38.j1, if_true]; exact Ev.const _
  simp only [F38.j0, if_pos c2]; refine Ev.succ ?_
  by_cases c3 : (rdv P (m.f7 - 1)).f3 = trg m.f3
  rotate_left
  ·simp only [F38.j1, bne_iff_ne.2 c3, if_true, if_neg (show ¬ ((rdv P (m.f7 - 1)).f2.toList = m.f2.toList ∧ (rdv P (m.f7 - 1)).f3 = trg m.f3) from fun h => c3 h.2)]; exact Ev.const _
  simp only [F38.j1, bne_eq_false_iff_eq.2 c3, Bool.false_eq_true, if_false, if_pos (show (rdv P (m.f7 - 1)).f2.toList = m.f2.toList ∧ (rdv P (m.f7 - 1)).f3 = trg m.f3 from ⟨c2, c3⟩)]
  by_cases c4 : m.f1 < (rdv P (m.f7 - 1)).f1
  ·simp only [if_pos c4]; exact Ev.const _
  simp only [if_neg c4]; exact F38.go m (rdv P (m.f7 - 1)) P [] m.f4 0 rfl hP hl (by omega) (by simp; omega)
 by_cases c : m.f3 = 3
 ·simp only [if_pos c]; exact fin 2 (by simp [trg, c])
 ·simp only [if_neg c]; exact fin 1 (by simp [trg, c])
theorem F15.go (l : List MV) (hl : l.length ≤ 2000) (hz : ∀ y ∈ l, y.f2.size ≤ 1000000000000000 ∧ y.f6.size ≤ 1000000000000000) : ∀ (R P : List MV), P ++ R = l → Good P → Ev (fun k => F15.l0 k l (P.length : Int)) (chkv P R)
 | [], P, e, _ => by
  refine Ev.succ ?_; have : P.length = l.length := by rw [← e]; simp
  simp only [F15.l0, chkv, if_neg (show ¬ (P.length : Int) < (l.length : Int) by omega)]; exact Ev.const _
 | m :: R, P, e, hP => by
  have hPl : P.length + (R.length + 1) = l.length := by rw [← e]; simp
  have ht : l.take P.length = P := by rw [← e]; simp
  have hn : (P ++ [m]).length = P.length + 1 := by simp
  have hr : rd_T23 l (P.length : Int) = m := by rw [← e]; exact rdv_at P R m _ rfl
  have hzm := hz m (by rw [← e]; simp); refine Ev.succ ?_; simp only [F15.l0, chkv, if_pos (show (P.length : Int) < (l.length : Int) by omega), if_pos (show (0 : Int) ≤ (P.length : Int) by omega), hr]; rw [w64 (n := (P.length : Int) + 1) (by omega) (by omega)]
  by_cases c1 : m.f0 = (P.length : Int) + 1
  rotate_left
  ·simp only [if_neg c1]; exact Ev.const _
  simp only [if_pos c1]; refine Ev.bind (F13.eq m.f0 m.f1 m.f2 m.f3 m.f4 m.f5 m.f6 m.f7 hzm.1 hzm.2) ?_; show Ev (fun k => if onem m = 0 then _ else _) _
  by_cases c2 : onem m = 0
  rotate_left
  ·simp only [if_neg c2]; exact Ev.const _
  simp only [if_pos c2, F36.eq, Option.bind_some, if_pos (show (P.length : Int) ≤ (l.length : Int) by omega), Int.toNat_natCast, ht]; rw [show (P.length : Int) + 1 = ((P ++ [m]).length : Int) by rw [hn]; omega]
  by_cases c3 : folv m.f3 = true
  ·simp only [if_pos c3]; refine Ev.bind (F38.eq hP (by omega) c2 c3) ?_
   by_cases c4 : refv P m = 0
   ·simp only [if_pos c4]; exact F15.go l hl hz R (P ++ [m]) (by simpa using e) (hP.app c2)
   ·simp only [if_neg c4]; exact Ev.const _
  ·simp only [if_neg c3]; exact F15.go l hl hz R (P ++ [m]) (by simpa using e) (hP.app c2)
theorem F15.eq (l : List MV) (hz : ∀ y ∈ l, y.f2.size ≤ 1000000000000000 ∧ y.f6.size ≤ 1000000000000000) : Ev (fun k => F15.f k l) (Checkv l) := by
 unfold F15.f Checkv
 by_cases c : (l.length : Int) > 2000
 ·simp only [if_pos c]; exact Ev.const _
 ·simp only [if_neg c]; exact F15.go l (by omega) hz l [] rfl (by intro y hy; simp at hy)
def recE (l : List MV) (value : Int) (P : List Int) : List Int → Int
 | [] => 0
 | n :: r => if ¬ (1 ≤ n ∧ n ≤ (l.length : Int) ∧ (rdv l (n - 1)).f3 = 1) then 28 else if n ∈ P then 8 else if value < (rdv l (n - 1)).f1 then 17 else recE l value (P ++ [n]) r
abbrev fnd (l : List MV) (r : List Int) : List MV := r.map fun n => rdv l (n - 1)
theorem recL.eq (l : List MV) (value : Int) : ∀ (r P : List Int) (S : List (Int × Bool)), (P ++ r).length < 1000000000 → (∀ n, (aget S n).getD false = decide (n ∈ P)) →
  recL l value r (fnd l P) S = some (if recE l value P r = 0 then fnd l (P ++ r) else [], recE l value P r)
 | [], P, S, _, _ => by simp [recL, recE]
 | n :: r, P, S, hl, hS => by
  have hl2 : P.length + (r.length + 1) < 1000000000 := by simpa using hl
  simp only [recL, recE, F27.eq, Option.bind_some]
  by_cases c1 : 1 ≤ n ∧ n ≤ (l.length : Int)
  rotate_left
  ·simp only [inv, decide_eq_false c1, Bool.false_eq_true, if_false, if_pos (show ¬ (1 ≤ n ∧ n ≤ (l.length : Int) ∧ (rdv l (n - 1)).f3 = 1) from fun h => c1 ⟨h.1, h.2.1⟩), if_neg (show ¬ (28 : Int) = 0 by omega)]
  simp only [inv, decide_eq_true c1, if_true, if_pos c1]
  by_cases c2 : (rdv l (n - 1)).f3 = 1
  rotate_left
  ·simp only [if_neg c2, if_pos (show ¬ (1 ≤ n ∧ n ≤ (l.length : Int) ∧ (rdv l (n - 1)).f3 = 1) from fun h => c2 h.2.2), if_neg (show ¬ (28 : Int) = 0 by omega)]
  simp only [if_pos c2, if_neg (show ¬ ¬ (1 ≤ n ∧ n ≤ (l.length : Int) ∧ (rdv l (n - 1)).f3 = 1) from fun h => h ⟨c1.1, c1.2, c2⟩), hS]
  by_cases c3 : n ∈ P
  ·simp only [decide_eq_true c3, if_true, if_pos c3, if_neg (show ¬ (8 : Int) = 0 by omega)]
  simp only [decide_eq_false c3, Bool.false_eq_true, if_false, if_neg c3]
  by_cases c4 : value < (rdv l (n - 1)).f1
  ·simp only [if_pos c4, if_neg (show ¬ (17 : Int) = 0 by omega)]
  simp only [if_neg c4, if_pos (show (fnd l P).length < 1000000000 by simp; omega)]
  have ih := recL.eq l value r (P ++ [n]) (aput S n true) (by simpa using hl) (fun m => by
   by_cases e : n = m
   ·subst e; rw [aget_aput_same]; simp
   ·rw [aget_aput_other _ _ _ e, hS]; have : (m ∈ P ++ [n]) = (m ∈ P) := by simp [Ne.symm e]
    simp only [this])
  rw [show fnd l P ++ [rdM l (n - 1)] = fnd l (P ++ [n]) by simp [fnd]]; rw [ih]
  simp
theorem F43.eq {l : List MV} {r : List Int} (value : Int) (h : r.length ≤ 1000000) : F43.f l r value = some (if recE l value [] r = 0 then fnd l r else [], recE l value [] r) := by
 unfold F43.f
 rw [if_pos h]; exact recL.eq l value r [] [] (by simp; omega) (by simp [aget])
theorem rd_mem_of {P r : List Int} {n i : Int} (h : i = (P.length : Int)) : rd (P ++ n :: r) i = n := rd_at P n r i h
theorem F45.l1_go {l : List MV} {value n : Int} {P r : List Int} (hl : (P ++ n :: r).length < 1000000) (hn : 1 ≤ n ∧ n ≤ (l.length : Int)) (hll : l.length < 1000000) {X : Int}
  (hX : Ev (fun k => F45.l0 k l (P ++ n :: r) value ((P.length : Int) + 1)) X) : ∀ (B A : List Int), A ++ B = P →
  Ev (fun k => F45.l1 k l (P ++ n :: r) value (P.length : Int) (A.length : Int)) (if n ∈ B then 8 else if value < (rdv l (n - 1)).f1 then 17 else X)
 | [], A, e => by
  obtain rfl : A = P := by simpa using e
  have hl2 : A.length + (r.length + 1) < 1000000 := by simpa using hl
  have e1 : ((A ++ n :: r).length : Int) = A.length + (r.length + 1) := by simp
  refine Ev.succ ?_; simp only [F45.l1, if_neg (show ¬ (A.length : Int) < (A.length : Int) by omega), if_pos (show (0 : Int) ≤ (A.length : Int) by omega), if_pos (show (A.length : Int) < ((A ++ n :: r).length : Int) by omega), rd_mem_of (P := A) (r := r) (n := n) rfl]; rw [w64 (n := n - 1) (by omega) (by omega), w64 (n := (A.length : Int) + 1) (by omega) (by omega)]; simp only [if_pos (show (0 : Int) ≤ n - 1 by omega), if_pos (show n - 1 < (l.length : Int) by omega), List.not_mem_nil, if_false]
  by_cases c : value < (rdv l (n - 1)).f1
  ·simp only [if_pos c]; exact Ev.const _
  ·simp only [if_neg c]; exact hX
 | b :: B, A, e => by
  have hP : P.length = A.length + (B.length + 1) := by rw [← e]; simp
  have hl2 : P.length + (r.length + 1) < 1000000 := by simpa using hl
  have e1 : ((P ++ n :: r).length : Int) = P.length + (r.length + 1) := by simp
  have hb : rd (P ++ n :: r) (A.length : Int) = b := by
   rw [← e, show A ++ b :: B ++ n :: r = A ++ b :: (B ++ n :: r) by simp]; exact rd_at A b _ _ rfl
  have ih := F45.l1_go hl hn hll hX B (A ++ [b]) (by simpa using e); rw [show ((A ++ [b]).length : Int) = (A.length : Int) + 1 by simp] at ih; refine Ev.succ ?_; simp only [F45.l1, if_pos (show (A.length : Int) < (P.length : Int) by omega), if_pos (show (0 : Int) ≤ (A.length : Int) by omega), if_pos (show (A.length : Int) < ((P ++ n :: r).length : Int) by omega), if_pos (show (0 : Int) ≤ (P.length : Int) by omega), if_pos (show (P.length : Int) < ((P ++ n :: r).length : Int) by omega), hb, rd_mem_of (P := P) (r := r) (n := n) rfl]; rw [w64 (n := (A.length : Int) + 1) (by omega) (by omega)]
  by_cases c : b = n
  ·simp only [if_pos c, if_pos (show n ∈ b :: B by rw [c]; exact List.mem_cons_self)]; exact Ev.const _
  ·simp only [if_neg c, show (n ∈ b :: B) = (n ∈ B) by simp [Ne.symm c]]; exact ih
theorem F45.go {l : List MV} {value : Int} (hll : l.length < 1000000) : ∀ (r P : List Int), (P ++ r).length < 1000000 → Ev (fun k => F45.l0 k l (P ++ r) value (P.length : Int)) (recE l value P r)
 | [], P, h => by
  refine Ev.succ ?_; simp only [F45.l0, List.append_nil, if_neg (show ¬ (P.length : Int) < (P.length : Int) by omega), recE]; exact Ev.const _
 | n :: r, P, h => by
  have h2 : P.length + (r.length + 1) < 1000000 := by simpa using h
  have e1 : ((P ++ n :: r).length : Int) = P.length + (r.length + 1) := by simp
  refine Ev.succ ?_; simp only [F45.l0, if_pos (show (P.length : Int) < ((P ++ n :: r).length : Int) by omega), if_pos (show (0 : Int) ≤ (P.length : Int) by omega), rd_mem_of (P := P) (r := r) (n := n) rfl, recE]
  by_cases a : n < 1
  ·simp only [if_pos a, if_pos (show ¬ (1 ≤ n ∧ n ≤ (l.length : Int) ∧ (rdv l (n - 1)).f3 = 1) by omega)]; refine Ev.succ ?_; simp only [F45.j1, if_true]; exact Ev.const _
  simp only [if_neg a]
  by_cases b : n > (l.length : Int)
  ·simp only [if_pos b, if_pos (show ¬ (1 ≤ n ∧ n ≤ (l.length : Int) ∧ (rdv l (n - 1)).f3 = 1) by omega)]; refine Ev.succ ?_; simp only [F45.j1, if_true]; exact Ev.const _
  simp only [if_neg b]; rw [w64 (n := n - 1) (by omega) (by omega)]; simp only [if_pos (show (0 : Int) ≤ n - 1 by omega), if_pos (show n - 1 < (l.length : Int) by omega)]; refine Ev.succ ?_
  by_cases c : (rdv l (n - 1)).f3 = 1
  rotate_left
  ·simp only [F45.j1, bne_iff_ne.2 c, if_true, if_pos (show ¬ (1 ≤ n ∧ n ≤ (l.length : Int) ∧ (rdv l (n - 1)).f3 = 1) from fun h => c h.2.2)]; exact Ev.const _
  simp only [F45.j1, bne_eq_false_iff_eq.2 c, Bool.false_eq_true, if_false, if_neg (show ¬ ¬ (1 ≤ n ∧ n ≤ (l.length : Int) ∧ (rdv l (n - 1)).f3 = 1) from fun h => h ⟨by omega, by omega, c⟩)]; have ih := F45.go (value := value) hll r (P ++ [n]) (by simpa using h); rw [show ((P ++ [n]).length : Int) = (P.length : Int) + 1 by simp, show P ++ [n] ++ r = P ++ n :: r by simp] at ih; exact F45.l1_go h ⟨by omega, by omega⟩ hll ih P [] rfl
theorem F45.eq {l : List MV} {r : List Int} (value : Int) (hll : l.length < 1000000) (h : r.length < 1000000) : Ev (fun k => F45.f k l r value) (recE l value [] r) := by
 unfold F45.f
 exact F45.go hll r [] h
def ChkOk (P : List MV) : List MV → Prop
 | [] => True
 | m :: r => m.f0 = (P.length : Int) + 1 ∧ onem m = 0 ∧ (folv m.f3 = true → refv P m = 0) ∧ ChkOk (P ++ [m]) r
theorem chkv_ok : ∀ (R P : List MV), (chkv P R).2 = 0 ↔ ChkOk P R
 | [], P => by simp [chkv, ChkOk]
 | m :: R, P => by
  simp only [chkv, ChkOk]
  by_cases c1 : m.f0 = (P.length : Int) + 1
  rotate_left
  ·simp [if_neg c1, c1]
  by_cases c2 : onem m = 0
  rotate_left
  ·simp [if_pos c1, if_neg c2, c2]
  by_cases c3 : folv m.f3 = true
  ·by_cases c4 : refv P m = 0
   ·rw [if_pos c1, if_pos c2, if_pos c3, if_pos c4, chkv_ok R (P ++ [m])]; exact ⟨fun h => ⟨c1, c2, fun _ => c4, h⟩, fun h => h.2.2.2⟩
   ·simp [if_pos c1, if_pos c2, if_pos c3, if_neg c4, c4, c3]
  ·rw [if_pos c1, if_pos c2, if_neg c3, chkv_ok R (P ++ [m])]; exact ⟨fun h => ⟨c1, c2, fun h1 => absurd h1 c3, h⟩, fun h => h.2.2.2⟩
theorem ChkOk.fst : ∀ {R P : List MV}, ChkOk P R → chkv P R = (-1, 0)
 | [], P, _ => rfl
 | m :: R, P, h => by
  obtain ⟨h1, h2, h3, h4⟩ := h; simp only [chkv, if_pos h1, if_pos h2]
  by_cases c : folv m.f3 = true
  ·simp only [if_pos c, if_pos (h3 c), ChkOk.fst h4]
  ·simp only [if_neg c, ChkOk.fst h4]
theorem ChkOk.app : ∀ (R P S : List MV), ChkOk P (R ++ S) ↔ ChkOk P R ∧ ChkOk (P ++ R) S
 | [], P, S => by simp [ChkOk]
 | m :: R, P, S => by
  simp only [List.cons_append, ChkOk, ChkOk.app R (P ++ [m]) S, List.append_assoc, List.singleton_append]
  constructor
  ·rintro ⟨a, b, c, d, e⟩; exact ⟨⟨a, b, c, d⟩, e⟩
  ·rintro ⟨⟨a, b, c, d⟩, e⟩; exact ⟨a, b, c, d, e⟩
theorem ChkOk.good : ∀ {R P : List MV}, ChkOk P R → ∀ y ∈ R, onem y = 0
 | [], _, _, y, hy => by simp at hy
 | m :: R, P, h, y, hy => by
  rcases List.mem_cons.1 hy with e | e
  ·rw [e]; exact h.2.1
  ·exact ChkOk.good h.2.2.2 y e
theorem ChkOk.seq : ∀ {R P : List MV}, ChkOk P R → ∀ i : Nat, (h : i < R.length) → (R[i]).f0 = (P.length : Int) + (i : Int) + 1
 | [], _, _, i, h => by simp at h
 | m :: R, P, h, 0, _ => by simpa using h.1
 | m :: R, P, h, i + 1, hi => by
  have := ChkOk.seq h.2.2.2 i (by simpa using hi); simp only [List.getElem_cons_succ, this, List.length_append, List.length_singleton]
  omega
theorem Checkv_ok (l : List MV) : (Checkv l).2 = 0 ↔ (l.length ≤ 2000 ∧ ChkOk [] l) := by
 unfold Checkv
 by_cases c : (l.length : Int) > 2000
 ·rw [if_pos c]
  constructor
  ·intro h; exact absurd h (by decide)
  ·intro h; omega
 ·rw [if_neg c, chkv_ok]
  constructor
  ·intro h; exact ⟨by omega, h⟩
  ·exact fun h => h.2
theorem Checkv_fst {l : List MV} (h : (Checkv l).2 = 0) : Checkv l = (-1, 0) := by
 obtain ⟨h1, h2⟩ := (Checkv_ok l).1 h
 unfold Checkv
 rw [if_neg (by omega), h2.fst]
theorem rdv_seq {l : List MV} (h : ChkOk [] l) {n : Int} (h0 : 1 ≤ n) (h1 : n ≤ (l.length : Int)) : (rdv l (n - 1)).f0 = n := by
 obtain ⟨j, hj⟩ : ∃ j : Nat, n - 1 = (j : Int) := ⟨(n - 1).toNat, by omega⟩; have hlt : j < l.length := by omega
 have e : rdv l (n - 1) = l[j] := by rw [hj]; simp [rdv, rd_T23, List.getD_eq_getElem?_getD, hlt]
 rw [e, h.seq j hlt]
 simp; omega
end Go.Proofs.YtegpappenmhndaaDoor.M
end
section
namespace Go.Proofs.YtegpappenmhndaaDoor.M
open Go.RowKit Go.Proofs.YtegpappenmhndaaDoorW.PrintWords
set_option linter.unusedVariables false
theorem F86.swap (s : List Int) (b0 n : Int) : ∀ (A B P M S : List Int) (a i : Int), A.length = B.length → a + i = (P.length : Int) → b0 + i = (P.length : Int) + A.length + M.length → n = i + A.length → 0 ≤ a → 0 ≤ i → (P ++ A ++ M ++ B ++ S).length < 1000000 →
  Ev (fun k => F86.l0 k (P ++ A ++ M ++ B ++ S) a b0 n i) (P ++ B ++ M ++ A ++ S)
 | [], B, P, M, S, a, i, hl, ha, hb, hn, _, _, _ => by
  obtain rfl : B = [] := List.eq_nil_of_length_eq_zero hl.symm; refine Ev.succ ?_; have h : ¬ i < n := by simp at hn; omega
  simp only [F86.l0, if_neg h]; exact Ev.const _
 | u :: A, B, P, M, S, a, i, hl, ha, hb, hn, h0, h1, hs => by
  obtain ⟨v, B, rfl⟩ : ∃ v B', B = v :: B' := by
   cases B with
   | nil => simp at hl
   | cons v B => exact ⟨v, B, rfl⟩
  simp only [List.length_cons] at hl hn hb; simp only [List.length_append, List.length_cons] at hs; have ih := F86.swap s b0 n A B (P ++ [v]) (M ++ [u]) S a (i + 1) (by omega) (by simp; omega) (by simp; omega) (by omega) h0 (by omega) (by simp only [List.length_append, List.length_cons, List.length_nil]; omega); refine Ev.succ ?_; have e1 : wrap64 (a + i) = a + i := w64 (by omega) (by omega); have e2 : wrap64 (b0 + i) = b0 + i := w64 (by omega) (by omega); have e3 : wrap64 (i + 1) = i + 1 := w64 (by omega) (by omega)
  have r1 : rd (P ++ u :: A ++ M ++ v :: B ++ S) (a + i) = u := by
   rw [show P ++ u :: A ++ M ++ v :: B ++ S = P ++ u :: (A ++ M ++ v :: B ++ S) by simp]; exact rd_at _ _ _ _ ha
  have r2 : rd (P ++ u :: A ++ M ++ v :: B ++ S) (b0 + i) = v := by
   rw [show P ++ u :: A ++ M ++ v :: B ++ S = (P ++ u :: A ++ M) ++ v :: (B ++ S) by simp]; exact rd_at _ _ _ _ (by simp; omega)
  have s1 : (P ++ u :: A ++ M ++ v :: B ++ S).set (a + i).toNat v = P ++ v :: A ++ M ++ v :: B ++ S := by
   rw [show P ++ u :: A ++ M ++ v :: B ++ S = P ++ u :: (A ++ M ++ v :: B ++ S) by simp, set_at _ _ _ _ _ ha]; simp
  have s2 : (P ++ v :: A ++ M ++ v :: B ++ S).set (b0 + i).toNat u = P ++ v :: A ++ M ++ u :: B ++ S := by
   rw [show P ++ v :: A ++ M ++ v :: B ++ S = (P ++ v :: A ++ M) ++ v :: (B ++ S) by simp, set_at _ _ _ _ _ (by simp; omega)]; simp
  have hlen : ((P ++ u :: A ++ M ++ v :: B ++ S).length : Int) = P.length + A.length + M.length + B.length + S.length + 2 := by simp; omega
  have g0 : i < n := by omega
  have g1 : 0 ≤ b0 + i := by omega
  have g2 : b0 + i < ((P ++ u :: A ++ M ++ v :: B ++ S).length : Int) := by omega
  have g3 : 0 ≤ a + i := by omega
  have g4 : a + i < ((P ++ u :: A ++ M ++ v :: B ++ S).length : Int) := by omega
  simp only [F86.l0, e1, e2, e3, if_pos g0, if_pos g1, if_pos g2, if_pos g3, if_pos g4, r1, r2, s1, s2]; rw [show P ++ v :: A ++ M ++ u :: B ++ S = (P ++ [v]) ++ A ++ (M ++ [u]) ++ B ++ S by simp, show P ++ v :: B ++ M ++ u :: A ++ S = (P ++ [v]) ++ B ++ (M ++ [u]) ++ A ++ S by simp]; exact ih
theorem F86.f_swap (s A B P M S : List Int) (a b n : Int) (hl : A.length = B.length) (ha : a = (P.length : Int)) (hb : b = (P.length : Int) + A.length + M.length) (hn : n = A.length) (hs : (P ++ A ++ M ++ B ++ S).length < 1000000) :
  Ev (fun k => F86.f k (P ++ A ++ M ++ B ++ S) a b n s) (P ++ B ++ M ++ A ++ S) :=
 F86.swap s b n A B P M S a 0 hl (by omega) (by omega) (by omega) (by omega) (by omega) hs
theorem F85.rot (s : List Int) : ∀ (N : Nat) (P A B S : List Int) (m i j : Int), A.length + B.length ≤ N → 0 < A.length → 0 < B.length → i = A.length → j = B.length → m = (P.length : Int) + A.length → (P ++ A ++ B ++ S).length < 1000000 →
  Ev (fun k => F85.l0 k (P ++ A ++ B ++ S) m i j s) (P ++ B ++ A ++ S)
 | 0, P, A, B, S, m, i, j, hN, hA, hB, _, _, _, _ => by omega
 | N + 1, P, A, B, S, m, i, j, hN, hA, hB, hi, hj, hm, hs => by
  refine Ev.succ ?_; have hs' : P.length + A.length + B.length + S.length < 1000000 := by simpa [Nat.add_assoc] using hs
  have e1 : wrap64 (m - i) = m - i := w64 (by omega) (by omega)
  by_cases h1 : i = j
  ·simp only [F85.l0, if_pos h1, e1]; have h := F86.f_swap s A B P [] S (m - i) m i (by omega) (by omega) (by simp; omega) (by omega) (by simp; omega); simp only [List.append_nil] at h; exact Ev.bind h (Ev.const _)
  ·by_cases h2 : i > j
   ·simp only [F85.l0, if_neg h1, if_pos h2, e1]; obtain ⟨A1, A2, rfl, l1, l2⟩ := split_at A B.length (by omega); simp only [List.length_append] at *; have h := F86.f_swap s A1 B P A2 S (m - i) m j (by omega) (by omega) (by omega) (by omega) (by simp; omega); have ih := F85.rot s N (P ++ B) A2 A1 S m (i - j) j (by omega) (by omega) (by omega) (by omega) (by omega) (by simp; omega) (by simp; omega); have e2 : wrap64 (i - j) = i - j := w64 (by omega) (by omega); rw [e2]; refine Ev.bind (a := P ++ B ++ A2 ++ A1 ++ S) ?_ ?_
    ·simpa [List.append_assoc] using h
    ·simpa [List.append_assoc] using ih
   ·simp only [F85.l0, if_neg h1, if_neg h2, e1]; obtain ⟨B1, B2, rfl, l1, l2⟩ := split_at B (B.length - A.length) (by omega); simp only [List.length_append] at *; have e2 : wrap64 (wrap64 (m + j) - i) = m + j - i := by rw [w64 (n := m + j) (by omega) (by omega)]; exact w64 (by omega) (by omega)
    have e3 : wrap64 (j - i) = j - i := w64 (by omega) (by omega); have h := F86.f_swap s A B2 P B1 S (m - i) (m + j - i) i (by omega) (by omega) (by omega) (by omega) (by simp; omega); have ih := F85.rot s N P B2 B1 (A ++ S) m i (j - i) (by omega) (by omega) (by omega) (by omega) (by omega) (by omega) (by simp; omega); rw [e2, e3]; refine Ev.bind (a := P ++ B2 ++ B1 ++ A ++ S) ?_ ?_
    ·simpa [List.append_assoc] using h
    ·simpa [List.append_assoc] using ih
theorem F85.f_rot (s P A B S : List Int) (a m b : Int) (hA : 0 < A.length) (hB : 0 < B.length) (ha : a = P.length) (hm : m = (P.length : Int) + A.length) (hb : b = (P.length : Int) + A.length + B.length) (hs : (P ++ A ++ B ++ S).length < 1000000) :
  Ev (fun k => F85.f k (P ++ A ++ B ++ S) a m b s) (P ++ B ++ A ++ S) := by
 have hs' : P.length + A.length + B.length + S.length < 1000000 := by simpa [Nat.add_assoc] using hs
 have e1 : wrap64 (m - a) = m - a := w64 (by omega) (by omega); have e2 : wrap64 (b - m) = b - m := w64 (by omega) (by omega); simp only [F85.f, e1, e2]; exact F85.rot s _ P A B S m (m - a) (b - m) (Nat.le_refl _) hA hB (by omega) (by omega) hm hs
structure Tot (lt : Int → Int → Prop) : Prop where
 trans : ∀ x y z, lt x y → lt y z → lt x z
 tot : ∀ x y, x ≠ y → lt x y ∨ lt y x
 irr : ∀ x, ¬ lt x x
theorem Tot.asym {lt : Int → Int → Prop} (o : Tot lt) {x y : Int} (h : lt x y) : ¬ lt y x := fun k => o.irr x (o.trans _ _ _ h k)
def Cm (s : List Int) (lt : Int → Int → Prop) (x y : Int) : Prop := x ≠ y ∧ ∃ v, F81.f y x s = some v ∧ (v < 0 ↔ lt y x)
theorem F83.in1 (s : List Int) (lt : Int → Int → Prop) (o : Tot lt) (a b i : Int) (u : Int) (P T : List Int) (ha : a = (P.length : Int)) : ∀ (N : Nat) (L1 L2 : List Int) (j : Int), L1.length = N → j = a + N → (∀ y ∈ L1, Cm s lt y u) → (L1 ++ L2).Pairwise lt → (∀ y ∈ L2, lt u y) → (P ++ (L1 ++ u :: L2) ++ T).length < 1000000 →
  ∃ L', L'.Perm (L1 ++ u :: L2) ∧ L'.Pairwise lt ∧ ∀ r, Ev (fun k => F83.l0 k (P ++ L' ++ T) a b (wrap64 (i + 1)) s) r → Ev (fun k => F83.l1 k (P ++ (L1 ++ u :: L2) ++ T) a b i j s) r
 | 0, L1, L2, j, hN, hj, hc, hp, hu, hs => by
  obtain rfl : L1 = [] := List.eq_nil_of_length_eq_zero hN; refine ⟨u :: L2, List.Perm.refl _, List.pairwise_cons.2 ⟨hu, by simpa using hp⟩, fun r h => Ev.succ ?_⟩; have g : ¬ j > a := by simp at hj; omega
  simp only [F83.l1, if_neg g]; exact h
 | N + 1, L1, L2, j, hN, hj, hc, hp, hu, hs => by
  obtain ⟨L1, y, rfl⟩ : ∃ L y, L1 = L ++ [y] := by
   have hne : L1 ≠ [] := by intro h; rw [h] at hN; simp at hN
   exact ⟨L1.dropLast, L1.getLast hne, (List.dropLast_concat_getLast hne).symm⟩
  have hN' : L1.length = N := by simpa using hN
  have hs' : P.length + L1.length + L2.length + T.length + 2 < 1000000 := by simp only [List.length_append, List.length_cons, List.length_nil] at hs; omega
  obtain ⟨hne, v, hv, hvl⟩ := hc y (by simp); have e1 : wrap64 (j - 1) = j - 1 := w64 (by omega) (by omega)
  have r1 : rd (P ++ (L1 ++ [y] ++ u :: L2) ++ T) j = u := by
   rw [show P ++ (L1 ++ [y] ++ u :: L2) ++ T = (P ++ L1 ++ [y]) ++ u :: (L2 ++ T) by simp]; exact rd_at _ _ _ _ (by simp; omega)
  have r2 : rd (P ++ (L1 ++ [y] ++ u :: L2) ++ T) (j - 1) = y := by
   rw [show P ++ (L1 ++ [y] ++ u :: L2) ++ T = (P ++ L1) ++ y :: (u :: L2 ++ T) by simp]; exact rd_at _ _ _ _ (by simp; omega)
  have s1 : (P ++ (L1 ++ [y] ++ u :: L2) ++ T).set j.toNat y = P ++ (L1 ++ [y] ++ y :: L2) ++ T := by
   rw [show P ++ (L1 ++ [y] ++ u :: L2) ++ T = (P ++ L1 ++ [y]) ++ u :: (L2 ++ T) by simp, set_at _ _ _ _ _ (by simp; omega)]; simp
  have s2 : (P ++ (L1 ++ [y] ++ y :: L2) ++ T).set (j - 1).toNat u = P ++ (L1 ++ u :: (y :: L2)) ++ T := by
   rw [show P ++ (L1 ++ [y] ++ y :: L2) ++ T = (P ++ L1) ++ y :: (y :: L2 ++ T) by simp, set_at _ _ _ _ _ (by simp; omega)]; simp
  have hlen : ((P ++ (L1 ++ [y] ++ u :: L2) ++ T).length : Int) = P.length + L1.length + L2.length + T.length + 2 := by simp; omega
  have g0 : j > a := by omega
  have g1 : 0 ≤ j := by omega
  have g2 : j < ((P ++ (L1 ++ [y] ++ u :: L2) ++ T).length : Int) := by omega
  have g3 : 0 ≤ j - 1 := by omega
  have g4 : j - 1 < ((P ++ (L1 ++ [y] ++ u :: L2) ++ T).length : Int) := by omega
  by_cases hlt : lt u y
  ·obtain ⟨L', q1, q2, q3⟩ := F83.in1 s lt o a b i u P T ha N L1 (y :: L2) (j - 1) hN' (by omega) (fun z hz => hc z (by simp [hz])) (by simpa using hp) (fun z hz => by
    rcases List.mem_cons.1 hz with rfl | hz
    ·exact hlt
    ·exact hu z hz) (by simp only [List.length_append, List.length_cons]; omega)
   refine ⟨L', q1.trans ?_, q2, fun r h => Ev.succ ?_⟩
   ·rw [List.append_assoc]; exact List.Perm.append_left L1 (List.Perm.swap y u L2)
   ·have hv0 : v < 0 := hvl.2 hlt; simp only [F83.l1, if_pos g0, e1, if_pos g1, if_pos g2, if_pos g3, if_pos g4, r1, r2, hv, Option.bind_some, if_pos hv0, s1, s2]; exact q3 r h
  ·have hv0 : ¬ v < 0 := fun k => hlt (hvl.1 k); have hyu : lt y u := (o.tot y u hne).resolve_right hlt; refine ⟨L1 ++ [y] ++ u :: L2, List.Perm.refl _, ?_, fun r h => Ev.succ ?_⟩
   ·obtain ⟨p1, p2, p3⟩ := List.pairwise_append.1 hp; refine List.pairwise_append.2 ⟨p1, List.pairwise_cons.2 ⟨hu, p2⟩, fun z hz w hw => ?_⟩
    rcases List.mem_cons.1 hw with rfl | hw
    ·rcases List.mem_append.1 hz with hz1 | hz1
     ·exact o.trans _ _ _ ((List.pairwise_append.1 p1).2.2 z hz1 y (by simp)) hyu
     ·rw [List.mem_singleton.1 hz1]; exact hyu
    ·exact p3 z hz w hw
   ·simp only [F83.l1, if_pos g0, e1, if_pos g1, if_pos g2, if_pos g3, if_pos g4, r1, r2, hv, Option.bind_some, if_neg hv0]; exact h
theorem F83.out (s : List Int) (lt : Int → Int → Prop) (o : Tot lt) (a b : Int) (P T : List Int) (ha : a = (P.length : Int)) : ∀ (R L : List Int) (i : Int), i = a + L.length → b = i + R.length → L.Pairwise lt → (∀ x ∈ L, ∀ y ∈ R, Cm s lt x y) → R.Pairwise (Cm s lt) → (P ++ (L ++ R) ++ T).length < 1000000 →
  ∃ M, M.Perm (L ++ R) ∧ M.Pairwise lt ∧ Ev (fun k => F83.l0 k (P ++ (L ++ R) ++ T) a b i s) (P ++ M ++ T)
 | [], L, i, hi, hb, hp, _, _, _ => by
  refine ⟨L, by simp, hp, Ev.succ ?_⟩; have g : ¬ i < b := by simp at hb; omega
  simp only [F83.l0, if_neg g, List.append_nil]; exact Ev.const _
 | u :: R, L, i, hi, hb, hp, hc, hr, hs => by
  have hs' : P.length + L.length + R.length + T.length + 1 < 1000000 := by simp only [List.length_append, List.length_cons] at hs; omega
  simp only [List.length_cons] at hb; obtain ⟨L', q1, q2, q3⟩ := F83.in1 s lt o a b i u P (R ++ T) ha L.length L [] i rfl hi (fun y hy => hc y hy u (by simp)) (by simpa using hp) (by simp) (by simp only [List.length_append, List.length_cons, List.length_nil]; omega); have e1 : wrap64 (i + 1) = i + 1 := w64 (by omega) (by omega); have hl' : L'.length = L.length + 1 := by simpa using q1.length_eq
  obtain ⟨M, m1, m2, m3⟩ := F83.out s lt o a b P T ha R L' (i + 1) (by omega) (by omega) q2 (fun x hx y hy => by
   rcases List.mem_append.1 (q1.mem_iff.1 hx) with h | h
   ·exact hc x h y (by simp [hy])
   ·obtain rfl : x = u := by simpa using h
    exact (List.pairwise_cons.1 hr).1 y hy) (List.pairwise_cons.1 hr).2 pla3_3
  refine ⟨M, m1.trans ?_, m2, Ev.succ ?_⟩
  ·have := List.Perm.append_right R q1
   simpa using this
  ·have g : i < b := by omega
   simp only [F83.l0, if_pos g]; have := q3 (P ++ M ++ T) (by rw [e1]; simpa using m3)
   simpa using this
theorem F83.f_sort (s : List Int) (lt : Int → Int → Prop) (o : Tot lt) (a b : Int) (P R T : List Int) (ha : a = (P.length : Int)) (hb : b = a + R.length) (hr : R.Pairwise (Cm s lt)) (hs : (P ++ R ++ T).length < 1000000) :
  ∃ M, M.Perm R ∧ M.Pairwise lt ∧ Ev (fun k => F83.f k (P ++ R ++ T) a b s) (P ++ M ++ T) := by
 have hs' : P.length + R.length + T.length < 1000000 := by simpa [Nat.add_assoc] using hs
 have e1 : wrap64 (a + 1) = a + 1 := w64 (by omega) (by omega); simp only [F83.f, e1]
 cases R with
 | nil =>
  refine ⟨[], List.Perm.refl _, List.Pairwise.nil, Ev.succ ?_⟩; have g : ¬ a + 1 < b := by simp at hb; omega
  simp only [F83.l0, if_neg g]; exact Ev.const _
 | cons u R =>
  simp only [List.length_cons] at hb
  have h := F83.out s lt o a b P T ha R [u] (a + 1) (by simp) (by omega) (by simp) (fun x hx y hy => by
   obtain rfl : x = u := by simpa using hx
   exact (List.pairwise_cons.1 hr).1 y hy) (List.pairwise_cons.1 hr).2 (by simpa using hs)
  simpa using h
theorem F84.up (P T : List Int) (u : Int) (i : Int) : ∀ (R : List Int) (P : List Int) (kk : Int), kk = (P.length : Int) → i = kk + 1 + R.length → (P ++ u :: R ++ T).length < 1000000 → Ev (fun k => F84.l1 k (P ++ u :: R ++ T) i kk) (P ++ R ++ u :: T)
 | [], P, kk, hk, hi, hs => by
  refine Ev.succ ?_; have hs' : P.length + T.length + 1 < 1000000 := by simp only [List.length_append, List.length_cons, List.length_nil] at hs; omega
  have e1 : wrap64 (i - 1) = i - 1 := w64 (by simp at hi; omega) (by simp at hi; omega); have g : ¬ kk < i - 1 := by simp at hi; omega
  simp only [F84.l1, e1, if_neg g]
  simpa using Ev.const _
 | y :: R, P, kk, hk, hi, hs => by
  have hs' : P.length + R.length + T.length + 2 < 1000000 := by simp only [List.length_append, List.length_cons] at hs; omega
  simp only [List.length_cons] at hi; have e1 : wrap64 (i - 1) = i - 1 := w64 (by omega) (by omega); have e2 : wrap64 (kk + 1) = kk + 1 := w64 (by omega) (by omega)
  have r1 : rd (P ++ u :: y :: R ++ T) kk = u := by
   rw [show P ++ u :: y :: R ++ T = P ++ u :: (y :: R ++ T) by simp]; exact rd_at _ _ _ _ hk
  have r2 : rd (P ++ u :: y :: R ++ T) (kk + 1) = y := by
   rw [show P ++ u :: y :: R ++ T = (P ++ [u]) ++ y :: (R ++ T) by simp]; exact rd_at _ _ _ _ (by simp; omega)
  have s1 : (P ++ u :: y :: R ++ T).set kk.toNat y = P ++ y :: y :: R ++ T := by
   rw [show P ++ u :: y :: R ++ T = P ++ u :: (y :: R ++ T) by simp, set_at _ _ _ _ _ hk]; simp
  have s2 : (P ++ y :: y :: R ++ T).set (kk + 1).toNat u = (P ++ [y]) ++ u :: R ++ T := by
   rw [show P ++ y :: y :: R ++ T = (P ++ [y]) ++ y :: (R ++ T) by simp, set_at _ _ _ _ _ (by simp; omega)]; simp
  have hlen : ((P ++ u :: y :: R ++ T).length : Int) = P.length + R.length + T.length + 2 := by simp; omega
  have g0 : kk < i - 1 := by omega
  have g1 : 0 ≤ kk := by omega
  have g2 : kk < ((P ++ u :: y :: R ++ T).length : Int) := by omega
  have g3 : 0 ≤ kk + 1 := by omega
  have g4 : kk + 1 < ((P ++ u :: y :: R ++ T).length : Int) := by omega
  have ih := F84.up P T u i R (P ++ [y]) (kk + 1) (by simp; omega) (by omega) (by simp only [List.length_append, List.length_cons, List.length_nil]; omega); refine Ev.succ ?_; simp only [F84.l1, e1, e2, if_pos g0, if_pos g1, if_pos g2, if_pos g3, if_pos g4, r1, r2, s1, s2]
  simpa using ih
theorem F84.down (P : List Int) (u : Int) (i : Int) (hi : i = (P.length : Int)) : ∀ (N : Nat) (L T : List Int) (kk : Int), L.length = N → kk = i + N → (P ++ L ++ u :: T).length < 1000000 → Ev (fun k => F84.l3 k (P ++ L ++ u :: T) i kk) (P ++ u :: L ++ T)
 | 0, L, T, kk, hN, hk, hs => by
  obtain rfl : L = [] := List.eq_nil_of_length_eq_zero hN; refine Ev.succ ?_; have g : ¬ kk > i := by simp at hk; omega
  simp only [F84.l3, if_neg g]
  simpa using Ev.const _
 | N + 1, L, T, kk, hN, hk, hs => by
  obtain ⟨L, y, rfl⟩ : ∃ L' y, L = L' ++ [y] := by
   have hne : L ≠ [] := by intro h; rw [h] at hN; simp at hN
   exact ⟨L.dropLast, L.getLast hne, (List.dropLast_concat_getLast hne).symm⟩
  have hN' : L.length = N := by simpa using hN
  have hs' : P.length + L.length + T.length + 2 < 1000000 := by simp only [List.length_append, List.length_cons, List.length_nil] at hs; omega
  have e1 : wrap64 (kk - 1) = kk - 1 := w64 (by omega) (by omega); have r1 : rd (P ++ (L ++ [y]) ++ u :: T) kk = u := rd_at _ _ _ _ (by simp; omega)
  have r2 : rd (P ++ (L ++ [y]) ++ u :: T) (kk - 1) = y := by
   rw [show P ++ (L ++ [y]) ++ u :: T = (P ++ L) ++ y :: (u :: T) by simp]; exact rd_at _ _ _ _ (by simp; omega)
  have s1 : (P ++ (L ++ [y]) ++ u :: T).set kk.toNat y = P ++ (L ++ [y]) ++ y :: T := set_at _ _ _ _ _ (by simp; omega)
  have s2 : (P ++ (L ++ [y]) ++ y :: T).set (kk - 1).toNat u = P ++ L ++ u :: (y :: T) := by
   rw [show P ++ (L ++ [y]) ++ y :: T = (P ++ L) ++ y :: (y :: T) by simp, set_at _ _ _ _ _ (by simp; omega)]
  have hlen : ((P ++ (L ++ [y]) ++ u :: T).length : Int) = P.length + L.length + T.length + 2 := by simp; omega
  have g0 : kk > i := by omega
  have g1 : 0 ≤ kk := by omega
  have g2 : kk < ((P ++ (L ++ [y]) ++ u :: T).length : Int) := by omega
  have g3 : 0 ≤ kk - 1 := by omega
  have g4 : kk - 1 < ((P ++ (L ++ [y]) ++ u :: T).length : Int) := by omega
  have ih := F84.down P u i hi N L (y :: T) (kk - 1) hN' (by omega) (by simp only [List.length_append, List.length_cons]; omega); refine Ev.succ ?_; simp only [F84.l3, e1, if_pos g0, if_pos g1, if_pos g2, if_pos g3, if_pos g4, r1, r2, s1, s2]
  simpa using ih
theorem F84.mid {i j : Int} (h0 : 0 ≤ i) (h1 : i ≤ j) (h2 : j < 2000000) : wrap64 (IntKind.u64.wrap (wrap64 (i + j)) / 2) = (i + j) / 2 := by
 rw [w64 (n := i + j) (by omega) (by omega), u64w (by omega) (by omega)]; exact w64 (by omega) (by omega)
theorem F84.one_left (s : List Int) (lt : Int → Int → Prop) (o : Tot lt) (P R T : List Int) (u a m b : Int) (ha : a = (P.length : Int)) (hm : m = a + 1) (hb : b = m + R.length) (hR : R.Pairwise lt) (hc : ∀ y ∈ R, Cm s lt u y) (hs : (P ++ [u] ++ R ++ T).length < 1000000) :
  ∃ M, M.Perm ([u] ++ R) ∧ M.Pairwise lt ∧ Ev (fun k => F84.l0 k (P ++ [u] ++ R ++ T) a m b s) (P ++ M ++ T) := by
 have hs' : P.length + R.length + T.length + 1 < 1000000 := by simp only [List.length_append, List.length_cons, List.length_nil] at hs; omega
 have hlen : ((P ++ [u] ++ R ++ T).length : Int) = P.length + R.length + T.length + 1 := by simp; omega
 have ru : rd (P ++ [u] ++ R ++ T) a = u := by
  rw [show P ++ [u] ++ R ++ T = P ++ u :: (R ++ T) by simp]; exact rd_at _ _ _ _ ha
 have hl1 : ((P ++ [u]).length : Int) = m := by simp; omega
 have hmem : ∀ c, m ≤ c → c < b → rd (P ++ [u] ++ R ++ T) c ∈ R := fun c c0 c1 => rd_mem (P ++ [u]) R T c (by omega) (by omega); have hlt : ∀ c d, m ≤ c → c < d → d < b → lt (rd (P ++ [u] ++ R ++ T) c) (rd (P ++ [u] ++ R ++ T) d) := fun c d c0 c1 c2 => rd_lt (P ++ [u]) R T hR c d (by omega) c1 (by omega)
 obtain ⟨t, t1, t2, t3, t4, t5⟩ := bsearch (fun i j k => F84.l0 k (P ++ [u] ++ R ++ T) a i j s) (fun i k => F84.l1 k (P ++ [u] ++ R ++ T) i a) (fun c => lt (rd (P ++ [u] ++ R ++ T) c) u) m b
  (fun i j r i0 ij j0 q h => by
   refine Ev.succ ?_; have e := F84.mid (i := i) (j := j) (by omega) (by omega) (by omega); have e2 : wrap64 ((i + j) / 2 + 1) = (i + j) / 2 + 1 := w64 (by omega) (by omega); obtain ⟨_, v, hv, hvl⟩ := hc _ (hmem ((i + j) / 2) (by omega) (by omega)); have hv0 : v < 0 := hvl.2 q; have g1 : 0 ≤ (i + j) / 2 := by omega
   have g2 : (i + j) / 2 < ((P ++ [u] ++ R ++ T).length : Int) := by omega
   have g3 : 0 ≤ a := by omega
   have g4 : a < ((P ++ [u] ++ R ++ T).length : Int) := by omega
   simp only [F84.l0, e, e2, if_pos ij, if_pos g1, if_pos g2, if_pos g3, if_pos g4, ru, hv, Option.bind_some, if_pos hv0]; exact h)
  (fun i j r i0 ij j0 q h => by
   refine Ev.succ ?_; have e := F84.mid (i := i) (j := j) (by omega) (by omega) (by omega); obtain ⟨_, v, hv, hvl⟩ := hc _ (hmem ((i + j) / 2) (by omega) (by omega)); have hv0 : ¬ v < 0 := fun k => q (hvl.1 k); have g1 : 0 ≤ (i + j) / 2 := by omega
   have g2 : (i + j) / 2 < ((P ++ [u] ++ R ++ T).length : Int) := by omega
   have g3 : 0 ≤ a := by omega
   have g4 : a < ((P ++ [u] ++ R ++ T).length : Int) := by omega
   simp only [F84.l0, e, if_pos ij, if_pos g1, if_pos g2, if_pos g3, if_pos g4, ru, hv, Option.bind_some, if_neg hv0]; exact h)
  (fun i r _ _ h => by
   refine Ev.succ ?_; simp only [F84.l0, if_neg (Int.lt_irrefl i)]; exact h)
  (fun c d c0 c1 c2 q => o.trans _ _ _ (hlt c d c0 c1 c2) q) _ m b (Nat.le_refl _) (by omega) (Int.le_refl _) (Int.le_refl _) (fun c c0 c1 => by omega) (fun c c0 c1 => by omega)
 obtain ⟨R1, R2, rfl, l1, l2⟩ := split_at R (t - m).toNat (by omega); rw [List.length_append] at hb; obtain ⟨p1, p2, p3⟩ := List.pairwise_append.1 hR
 have q1 : ∀ y ∈ R1, lt y u := fun y hy => by
  obtain ⟨c, c0, c1, rfl⟩ := mem_rd (P ++ [u]) R1 (R2 ++ T) y hy; have := t3 c (by omega) (by omega)
  simpa using this
 have q2 : ∀ y ∈ R2, lt u y := fun y hy => by
  obtain ⟨c, c0, c1, e⟩ := mem_rd (P ++ [u] ++ R1) R2 T y hy; have := t4 c (by rw [List.length_append] at c0; omega) (by rw [List.length_append] at c1; omega); have e' : rd (P ++ [u] ++ (R1 ++ R2) ++ T) c = y := by simpa using e
  rw [e'] at this; exact (o.tot u y (hc y (by simp [hy])).1).resolve_right this
 refine ⟨R1 ++ u :: R2, ?_, ?_, t5 _ ?_⟩
 ·exact List.perm_middle
 ·refine List.pairwise_append.2 ⟨p1, List.pairwise_cons.2 ⟨q2, p2⟩, fun y hy z hz => ?_⟩
  rcases List.mem_cons.1 hz with rfl | hz
  ·exact q1 y hy
  ·exact p3 y hy z hz
 ·have := F84.up P (R2 ++ T) u t R1 P a ha (by omega) (by simp only [List.length_append, List.length_cons] at *; omega)
  simpa using this
theorem F84.one_right (s : List Int) (lt : Int → Int → Prop) (o : Tot lt) (P L T : List Int) (u a m b : Int) (ha : a = (P.length : Int)) (hm : m = a + L.length) (hL : L.Pairwise lt) (hc : ∀ x ∈ L, Cm s lt x u) (hs : (P ++ L ++ [u] ++ T).length < 1000000) :
  ∃ M, M.Perm (L ++ [u]) ∧ M.Pairwise lt ∧ Ev (fun k => F84.l2 k (P ++ L ++ [u] ++ T) m a m s) (P ++ M ++ T) := by
 have hs' : P.length + L.length + T.length + 1 < 1000000 := by simp only [List.length_append, List.length_cons, List.length_nil] at hs; omega
 have hlen : ((P ++ L ++ [u] ++ T).length : Int) = P.length + L.length + T.length + 1 := by simp; omega
 have ru : rd (P ++ L ++ [u] ++ T) m = u := by
  rw [show P ++ L ++ [u] ++ T = (P ++ L) ++ u :: T by simp]; exact rd_at _ _ _ _ (by simp; omega)
 have hmem : ∀ c, a ≤ c → c < m → rd (P ++ L ++ [u] ++ T) c ∈ L := fun c c0 c1 => by
  rw [show P ++ L ++ [u] ++ T = P ++ L ++ ([u] ++ T) by simp]; exact rd_mem P L _ c (by omega) (by omega)
 have hlt : ∀ c d, a ≤ c → c < d → d < m → lt (rd (P ++ L ++ [u] ++ T) c) (rd (P ++ L ++ [u] ++ T) d) := fun c d c0 c1 c2 => by
  rw [show P ++ L ++ [u] ++ T = P ++ L ++ ([u] ++ T) by simp]; exact rd_lt P L _ hL c d (by omega) c1 (by omega)
 obtain ⟨t, t1, t2, t3, t4, t5⟩ := bsearch (fun i j k => F84.l2 k (P ++ L ++ [u] ++ T) m i j s) (fun i k => F84.l3 k (P ++ L ++ [u] ++ T) i m) (fun c => ¬ lt u (rd (P ++ L ++ [u] ++ T) c)) a m
  (fun i j r i0 ij j0 q h => by
   refine Ev.succ ?_; have e := F84.mid (i := i) (j := j) (by omega) (by omega) (by omega); have e2 : wrap64 ((i + j) / 2 + 1) = (i + j) / 2 + 1 := w64 (by omega) (by omega); obtain ⟨_, v, hv, hvl⟩ := hc _ (hmem ((i + j) / 2) (by omega) (by omega)); have hv0 : ¬ v < 0 := fun k => q (hvl.1 k); have g1 : 0 ≤ (i + j) / 2 := by omega
   have g2 : (i + j) / 2 < ((P ++ L ++ [u] ++ T).length : Int) := by omega
   have g3 : 0 ≤ m := by omega
   have g4 : m < ((P ++ L ++ [u] ++ T).length : Int) := by omega
   simp only [F84.l2, e, e2, if_pos ij, if_pos g1, if_pos g2, if_pos g3, if_pos g4, ru, hv, Option.bind_some, if_neg hv0]; exact h)
  (fun i j r i0 ij j0 q h => by
   refine Ev.succ ?_; have e := F84.mid (i := i) (j := j) (by omega) (by omega) (by omega); obtain ⟨_, v, hv, hvl⟩ := hc _ (hmem ((i + j) / 2) (by omega) (by omega)); have hv0 : v < 0 := hvl.2 (Classical.not_not.1 q); have g1 : 0 ≤ (i + j) / 2 := by omega
   have g2 : (i + j) / 2 < ((P ++ L ++ [u] ++ T).length : Int) := by omega
   have g3 : 0 ≤ m := by omega
   have g4 : m < ((P ++ L ++ [u] ++ T).length : Int) := by omega
   simp only [F84.l2, e, if_pos ij, if_pos g1, if_pos g2, if_pos g3, if_pos g4, ru, hv, Option.bind_some, if_pos hv0]; exact h)
  (fun i r _ _ h => by
   refine Ev.succ ?_; simp only [F84.l2, if_neg (Int.lt_irrefl i)]; exact h)
  (fun c d c0 c1 c2 q k => q (o.trans _ _ _ k (hlt c d c0 c1 c2))) _ a m (Nat.le_refl _) (by omega) (Int.le_refl _) (Int.le_refl _) (fun c c0 c1 => by omega) (fun c c0 c1 => by omega)
 obtain ⟨L1, L2, rfl, l1, l2⟩ := split_at L (t - a).toNat (by omega); rw [List.length_append] at hm; obtain ⟨p1, p2, p3⟩ := List.pairwise_append.1 hL
 have q1 : ∀ y ∈ L1, lt y u := fun y hy => by
  obtain ⟨c, c0, c1, e⟩ := mem_rd P L1 (L2 ++ [u] ++ T) y hy; have := t3 c (by omega) (by omega); have e' : rd (P ++ (L1 ++ L2) ++ [u] ++ T) c = y := by simpa using e
  rw [e'] at this; exact (o.tot u y (Ne.symm (hc y (by simp [hy])).1)).resolve_left this
 have q2 : ∀ y ∈ L2, lt u y := fun y hy => by
  obtain ⟨c, c0, c1, e⟩ := mem_rd (P ++ L1) L2 ([u] ++ T) y hy; have := Classical.not_not.1 (t4 c (by rw [List.length_append] at c0; omega) (by rw [List.length_append] at c1; omega)); have e' : rd (P ++ (L1 ++ L2) ++ [u] ++ T) c = y := by simpa using e
  rwa [e'] at this
 refine ⟨L1 ++ u :: L2, ?_, ?_, t5 _ ?_⟩
 ·rw [List.append_assoc]; exact List.Perm.append_left L1 (List.perm_append_comm (l₁ := [u]) (l₂ := L2))
 ·refine List.pairwise_append.2 ⟨p1, List.pairwise_cons.2 ⟨q2, p2⟩, fun y hy z hz => ?_⟩
  rcases List.mem_cons.1 hz with rfl | hz
  ·exact q1 y hy
  ·exact p3 y hy z hz
 ·have := F84.down (P ++ L1) u t pla3_4 L2.length L2 T m rfl (by omega) (by simp only [List.length_append, List.length_cons, List.length_nil] at *; omega)
  simpa using this
def F84.Ok (s : List Int) (lt : Int → Int → Prop) (P L R T : List Int) (a m b : Int) : Prop :=
 ∃ M, M.Perm (L ++ R) ∧ M.Pairwise lt ∧ Ev (fun k => F84.f k (P ++ L ++ R ++ T) a m b s) (P ++ M ++ T)
theorem F84.tail (s : List Int) (lt : Int → Int → Prop) (P L1 R1 L2 R2 T : List Int) (a mid start fin b : Int) (ha : a = (P.length : Int)) (hst : start = a + L1.length) (hmid : mid = start + R1.length) (hfin : fin = mid + L2.length) (hb : b = fin + R2.length)
  (hL1 : L1.Pairwise lt) (hR1 : R1.Pairwise lt) (hL2 : L2.Pairwise lt) (hR2 : R2.Pairwise lt)
  (f1 : ∀ x ∈ L1, ∀ y ∈ L2, lt x y) (f2 : ∀ x ∈ L1, ∀ y ∈ R2, lt x y) (f3 : ∀ x ∈ R1, ∀ y ∈ L2, lt x y) (f4 : ∀ x ∈ R1, ∀ y ∈ R2, lt x y)
  (h1 : 0 < L1.length → 0 < R1.length → ∀ T', (P ++ L1 ++ R1 ++ T').length < 1000000 → F84.Ok s lt P L1 R1 T' a start mid)
  (h2 : 0 < L2.length → 0 < R2.length → ∀ P', mid = (P'.length : Int) → (P' ++ L2 ++ R2 ++ T).length < 1000000 → F84.Ok s lt P' L2 R2 T mid fin b)
  (hs : (P ++ L1 ++ R1 ++ L2 ++ R2 ++ T).length < 1000000) :
  ∃ M, M.Perm (L1 ++ R1 ++ (L2 ++ R2)) ∧ M.Pairwise lt ∧ Ev (fun k => F84.j7 k (P ++ L1 ++ R1 ++ L2 ++ R2 ++ T) a b mid start fin s) (P ++ M ++ T) := by
 simp only [List.length_append] at hs
 obtain ⟨M1, m1, m2, m3, m4⟩ : ∃ M1 : List Int, M1.Perm (L1 ++ R1) ∧ M1.Pairwise lt ∧ (0 < L1.length → 0 < R1.length → Ev (fun k => F84.f k (P ++ L1 ++ R1 ++ L2 ++ R2 ++ T) a start mid s) (P ++ M1 ++ L2 ++ R2 ++ T)) ∧ (¬ (0 < L1.length ∧ 0 < R1.length) → M1 = L1 ++ R1) := by
  by_cases c : 0 < L1.length ∧ 0 < R1.length
  ·obtain ⟨M, q1, q2, q3⟩ := h1 c.1 c.2 (L2 ++ R2 ++ T) pla3_3; exact ⟨M, q1, q2, fun _ _ => by simpa using q3, fun h => absurd c h⟩
  ·refine ⟨L1 ++ R1, List.Perm.refl _, ?_, fun a b => absurd ⟨a, b⟩ c, fun _ => rfl⟩
   by_cases c1 : L1.length = 0
   ·rw [List.eq_nil_of_length_eq_zero c1]; simpa using hR1
   ·have c2 : R1.length = 0 := by omega
    rw [List.eq_nil_of_length_eq_zero c2]; simpa using hL1
 have hl1 : M1.length = L1.length + R1.length := by have := m1.length_eq; simpa using this
 obtain ⟨M2, n1, n2, n3, n4⟩ : ∃ M2 : List Int, M2.Perm (L2 ++ R2) ∧ M2.Pairwise lt ∧ (0 < L2.length → 0 < R2.length → Ev (fun k => F84.f k (P ++ M1 ++ L2 ++ R2 ++ T) mid fin b s) (P ++ M1 ++ M2 ++ T)) ∧ (¬ (0 < L2.length ∧ 0 < R2.length) → M2 = L2 ++ R2) := by
  by_cases c : 0 < L2.length ∧ 0 < R2.length
  ·obtain ⟨M, q1, q2, q3⟩ := h2 c.1 c.2 (P ++ M1) (by simp; omega) pla3_3; exact ⟨M, q1, q2, fun _ _ => q3, fun h => absurd c h⟩
  ·refine ⟨L2 ++ R2, List.Perm.refl _, ?_, fun a b => absurd ⟨a, b⟩ c, fun _ => rfl⟩
   by_cases c1 : L2.length = 0
   ·rw [List.eq_nil_of_length_eq_zero c1]; simpa using hR2
   ·have c2 : R2.length = 0 := by omega
    rw [List.eq_nil_of_length_eq_zero c2]; simpa using hL2
 refine ⟨M1 ++ M2, m1.append n1, List.pairwise_append.2 ⟨m2, n2, fun x hx y hy => ?_⟩, ?_⟩
 ·rcases List.mem_append.1 (m1.mem_iff.1 hx) with hx | hx <;> rcases List.mem_append.1 (n1.mem_iff.1 hy) with hy | hy
  ·exact f1 x hx y hy
  ·exact f2 x hx y hy
  ·exact f3 x hx y hy
  ·exact f4 x hx y hy
 have key : Ev (fun k => if fin > mid then (if fin < b then ((F84.f k (P ++ M1 ++ L2 ++ R2 ++ T) mid fin b s).bind fun t => some t) else some (P ++ M1 ++ L2 ++ R2 ++ T)) else some (P ++ M1 ++ L2 ++ R2 ++ T)) (P ++ (M1 ++ M2) ++ T) := by
  by_cases c1 : fin > mid
  ·by_cases c2 : fin < b
   ·simp only [if_pos c1, if_pos c2]; refine Ev.bind (n3 (by omega) (by omega)) ?_
    simpa using Ev.const _
   ·simp only [if_pos c1, if_neg c2]; rw [n4 (by omega)]
    simpa using Ev.const _
  ·simp only [if_neg c1]; rw [n4 (by omega)]
   simpa using Ev.const _
 have key2 : Ev (fun k => F84.j8 k (P ++ L1 ++ R1 ++ L2 ++ R2 ++ T) a b mid start fin (decide (a < start ∧ start < mid)) s) (P ++ (M1 ++ M2) ++ T) := by
  refine Ev.succ ?_
  by_cases c : a < start ∧ start < mid
  ·simp only [F84.j8, decide_eq_true c, if_true]; refine Ev.bind (m3 (by omega) (by omega)) ?_; exact key
  ·simp only [F84.j8, decide_eq_false c, Bool.false_eq_true, if_false]; have e := m4 (by omega); rw [show P ++ L1 ++ R1 ++ L2 ++ R2 ++ T = P ++ M1 ++ L2 ++ R2 ++ T by rw [e]; simp]; exact key
 refine Ev.succ ?_
 by_cases c1 : a < start
 ·simp only [F84.j7, if_pos c1]
  simpa [c1] using key2
 ·simp only [F84.j7, if_neg c1]
  simpa [c1] using key2
theorem F84.search (s : List Int) (lt : Int → Int → Prop) (o : Tot lt) (P L R T : List Int) (a m b mid n st r : Int) (ha : a = (P.length : Int)) (hm : m = a + L.length) (hb : b = m + R.length) (hL : L.Pairwise lt) (hR : R.Pairwise lt) (hc : ∀ x ∈ L, ∀ y ∈ R, Cm s lt x y) (hs : (P ++ L ++ R ++ T).length < 1000000)
  (hn : n = mid + m) (h0 : a ≤ st) (h1 : st ≤ r) (h2 : r ≤ m) (h3 : n - st ≤ b) (h4 : m ≤ n - r) :
  ∃ t, st ≤ t ∧ t ≤ r ∧ (∀ c, st ≤ c → c < t → lt (rd (P ++ L ++ R ++ T) c) (rd (P ++ L ++ R ++ T) (n - 1 - c))) ∧ (∀ c, t ≤ c → c < r → lt (rd (P ++ L ++ R ++ T) (n - 1 - c)) (rd (P ++ L ++ R ++ T) c)) ∧
   ∀ X, Ev (fun k => F84.j6 k (P ++ L ++ R ++ T) a m b mid t (n - t) (decide (t < m ∧ m < n - t)) s) X → Ev (fun k => F84.l4 k (P ++ L ++ R ++ T) a m b mid n st r (n - 1) s) X := by
 have hs' : P.length + L.length + R.length + T.length < 1000000 := by simp only [List.length_append] at hs; omega
 have hlen : ((P ++ L ++ R ++ T).length : Int) = P.length + L.length + R.length + T.length := by simp only [List.length_append]; omega
 have hmL : ∀ c, a ≤ c → c < m → rd (P ++ L ++ R ++ T) c ∈ L := fun c c0 c1 => by
  rw [show P ++ L ++ R ++ T = P ++ L ++ (R ++ T) by simp]; exact rd_mem P L _ c (by omega) (by omega)
 have hmR : ∀ c, m ≤ c → c < b → rd (P ++ L ++ R ++ T) c ∈ R := fun c c0 c1 => rd_mem (P ++ L) R T c pla3_4 pla3_4
 have hlL : ∀ c d, a ≤ c → c < d → d < m → lt (rd (P ++ L ++ R ++ T) c) (rd (P ++ L ++ R ++ T) d) := fun c d c0 c1 c2 => by
  rw [show P ++ L ++ R ++ T = P ++ L ++ (R ++ T) by simp]; exact rd_lt P L _ hL c d (by omega) c1 (by omega)
 have hlR : ∀ c d, m ≤ c → c < d → d < b → lt (rd (P ++ L ++ R ++ T) c) (rd (P ++ L ++ R ++ T) d) := fun c d c0 c1 c2 => rd_lt (P ++ L) R T hR c d pla3_4 c1 pla3_4
 obtain ⟨t, t1, t2, t3, t4, t5⟩ := bsearch (fun i j k => F84.l4 k (P ++ L ++ R ++ T) a m b mid n i j (n - 1) s) (fun t k => F84.j6 k (P ++ L ++ R ++ T) a m b mid t (n - t) (decide (t < m ∧ m < n - t)) s) (fun c => ¬ lt (rd (P ++ L ++ R ++ T) (n - 1 - c)) (rd (P ++ L ++ R ++ T) c)) st r
  (fun i j X i0 ij j0 q h => by
   refine Ev.succ ?_; have e := F84.mid (i := i) (j := j) (by omega) (by omega) (by omega); have e2 : wrap64 ((i + j) / 2 + 1) = (i + j) / 2 + 1 := w64 (by omega) (by omega); have e3 : wrap64 (n - 1 - (i + j) / 2) = n - 1 - (i + j) / 2 := w64 (by omega) (by omega); obtain ⟨_, v, hv, hvl⟩ := hc _ (hmL ((i + j) / 2) (by omega) (by omega)) _ (hmR (n - 1 - (i + j) / 2) (by omega) (by omega)); have hv0 : ¬ v < 0 := fun k => q (hvl.1 k); have g1 : 0 ≤ (i + j) / 2 := by omega
   have g2 : (i + j) / 2 < ((P ++ L ++ R ++ T).length : Int) := by omega
   have g3 : 0 ≤ n - 1 - (i + j) / 2 := by omega
   have g4 : n - 1 - (i + j) / 2 < ((P ++ L ++ R ++ T).length : Int) := by omega
   simp only [F84.l4, e, e2, e3, if_pos ij, if_pos g1, if_pos g2, if_pos g3, if_pos g4, hv, Option.bind_some, if_neg hv0]; exact h)
  (fun i j X i0 ij j0 q h => by
   refine Ev.succ ?_; have e := F84.mid (i := i) (j := j) (by omega) (by omega) (by omega); have e3 : wrap64 (n - 1 - (i + j) / 2) = n - 1 - (i + j) / 2 := w64 (by omega) (by omega); obtain ⟨_, v, hv, hvl⟩ := hc _ (hmL ((i + j) / 2) (by omega) (by omega)) _ (hmR (n - 1 - (i + j) / 2) (by omega) (by omega)); have hv0 : v < 0 := hvl.2 (Classical.not_not.1 q); have g1 : 0 ≤ (i + j) / 2 := by omega
   have g2 : (i + j) / 2 < ((P ++ L ++ R ++ T).length : Int) := by omega
   have g3 : 0 ≤ n - 1 - (i + j) / 2 := by omega
   have g4 : n - 1 - (i + j) / 2 < ((P ++ L ++ R ++ T).length : Int) := by omega
   simp only [F84.l4, e, e3, if_pos ij, if_pos g1, if_pos g2, if_pos g3, if_pos g4, hv, Option.bind_some, if_pos hv0]; exact h)
  (fun i X i0 j0 h => by
   refine Ev.succ ?_; have e3 : wrap64 (n - i) = n - i := w64 (by omega) (by omega)
   by_cases c : i < m
   ·simp only [F84.l4, if_neg (Int.lt_irrefl i), if_pos c, e3]
    simpa [c] using h
   ·simp only [F84.l4, if_neg (Int.lt_irrefl i), if_neg c, e3]
    simpa [c] using h)
  (fun c d c0 c1 c2 q k => q (o.trans _ _ _ (hlR (n - 1 - d) (n - 1 - c) (by omega) (by omega) (by omega)) (o.trans _ _ _ k (hlL c d (by omega) c1 (by omega))))) _ st r (Nat.le_refl _) h1 (Int.le_refl _) (Int.le_refl _) (fun c c0 c1 => by omega) (fun c c0 c1 => by omega)
 refine ⟨t, t1, t2, fun c c0 c1 => ?_, fun c c0 c1 => Classical.not_not.1 (t4 c c0 c1), t5⟩; exact (o.tot _ _ (hc _ (hmL c (by omega) (by omega)) _ (hmR (n - 1 - c) (by omega) (by omega))).1).resolve_right (t3 c c0 c1)
theorem F84.merge (s : List Int) (lt : Int → Int → Prop) (o : Tot lt) : ∀ (N : Nat) (P L R T : List Int) (a m b : Int), L.length + R.length ≤ N → 0 < L.length → 0 < R.length → a = (P.length : Int) → m = a + L.length → b = m + R.length → L.Pairwise lt → R.Pairwise lt → (∀ x ∈ L, ∀ y ∈ R, Cm s lt x y) → (P ++ L ++ R ++ T).length < 1000000 → F84.Ok s lt P L R T a m b
 | 0, P, L, R, T, a, m, b, hN, h0, h1, _, _, _, _, _, _, _ => by omega
 | N + 1, P, L, R, T, a, m, b, hN, h0, h1, ha, hm, hb, hL, hR, hc, hs => by
  have hs' : P.length + L.length + R.length + T.length < 1000000 := by simp only [List.length_append] at hs; omega
  have e1 : wrap64 (m - a) = m - a := w64 (by omega) (by omega); have e2 : wrap64 (b - m) = b - m := w64 (by omega) (by omega)
  by_cases c1 : m - a = 1
  ·obtain ⟨u, rfl⟩ := List.length_eq_one_iff.1 (show L.length = 1 by omega); obtain ⟨M, q1, q2, q3⟩ := F84.one_left s lt o P R T u a m b ha (by omega) hb hR (fun y hy => hc u (by simp) y hy) hs; refine ⟨M, q1, q2, Ev.succ ?_⟩; simp only [F84.f, e1, if_pos c1]; exact q3
  by_cases c2 : b - m = 1
  ·obtain ⟨u, rfl⟩ := List.length_eq_one_iff.1 (show R.length = 1 by omega); obtain ⟨M, q1, q2, q3⟩ := F84.one_right s lt o P L T u a m b ha hm hL (fun x hx => hc x hx u (by simp)) hs; refine ⟨M, q1, q2, Ev.succ ?_⟩; simp only [F84.f, e1, e2, if_neg c1, if_pos c2]; exact q3
  have em := F84.mid (i := a) (j := b) (by omega) (by omega) (by omega); obtain ⟨mid, hmid⟩ : ∃ mid, mid = (a + b) / 2 := ⟨_, rfl⟩; rw [← hmid] at em; have e3 : wrap64 (mid + m) = mid + m := w64 (by omega) (by omega); have e4 : wrap64 (mid + m - b) = mid + m - b := w64 (by omega) (by omega); have e5 : wrap64 (mid + m - 1) = mid + m - 1 := w64 (by omega) (by omega)
  have fol : ∀ t st r : Int, a ≤ st → st ≤ t → t ≤ r → r ≤ m → t ≤ mid → mid + m - t ≤ b → (∀ c, st ≤ c → c < t → lt (rd (P ++ L ++ R ++ T) c) (rd (P ++ L ++ R ++ T) (mid + m - 1 - c))) → (∀ c, t ≤ c → c < r → lt (rd (P ++ L ++ R ++ T) (mid + m - 1 - c)) (rd (P ++ L ++ R ++ T) c)) → (st = a ∨ mid + m - st = b) → (r = m ∨ r = mid) →
    ∃ M, M.Perm (L ++ R) ∧ M.Pairwise lt ∧ Ev (fun k => F84.j6 k (P ++ L ++ R ++ T) a m b mid t (mid + m - t) (decide (t < m ∧ m < mid + m - t)) s) (P ++ M ++ T) := by
   intro t st r u0 u1 u2 u3 u4 u5 k1 k2 k3 k4
   have hmL : ∀ c d, a ≤ c → c < d → d < m → lt (rd (P ++ L ++ R ++ T) c) (rd (P ++ L ++ R ++ T) d) := fun c d c0 c1 c2 => by
    rw [show P ++ L ++ R ++ T = P ++ L ++ (R ++ T) by simp]; exact rd_lt P L _ hL c d (by omega) c1 (by omega)
   have hmR : ∀ c d, m ≤ c → c < d → d < b → lt (rd (P ++ L ++ R ++ T) c) (rd (P ++ L ++ R ++ T) d) := fun c d c0 c1 c2 => rd_lt (P ++ L) R T hR c d pla3_4 c1 pla3_4
   have A : ∀ c d, a ≤ c → c < t → mid + m - t ≤ d → d < b → lt (rd (P ++ L ++ R ++ T) c) (rd (P ++ L ++ R ++ T) d) := fun c d c0 c1 d0 d1 => by
    have z := k1 (t - 1) (by omega) (by omega); rw [show mid + m - 1 - (t - 1) = mid + m - t by omega] at z; have z1 : c = t - 1 ∨ c < t - 1 := by omega
    have z2 : d = mid + m - t ∨ mid + m - t < d := by omega
    rcases z1 with rfl | z1 <;> rcases z2 with rfl | z2
    ·exact z
    ·exact o.trans _ _ _ z (hmR _ _ (by omega) z2 d1)
    ·exact o.trans _ _ _ (hmL _ _ c0 z1 (by omega)) z
    ·exact o.trans _ _ _ (hmL _ _ c0 z1 (by omega)) (o.trans _ _ _ z (hmR _ _ (by omega) z2 d1))
   have B : ∀ c d, m ≤ c → c < mid + m - t → t ≤ d → d < m → lt (rd (P ++ L ++ R ++ T) c) (rd (P ++ L ++ R ++ T) d) := fun c d c0 c1 d0 d1 => by
    have z := k2 t (by omega) (by omega); have z1 : c = mid + m - 1 - t ∨ c < mid + m - 1 - t := by omega
    have z2 : d = t ∨ t < d := by omega
    rcases z1 with rfl | z1 <;> rcases z2 with rfl | z2
    ·exact z
    ·exact o.trans _ _ _ z (hmL _ _ (by omega) z2 d1)
    ·exact o.trans _ _ _ (hmR _ _ c0 z1 (by omega)) z
    ·exact o.trans _ _ _ (hmR _ _ c0 z1 (by omega)) (o.trans _ _ _ z (hmL _ _ (by omega) z2 d1))
   obtain ⟨L1, L2, rfl, l1, l2⟩ := split_at L (t - a).toNat (by omega); obtain ⟨R1, R2, rfl, l3, l4⟩ := split_at R (mid - t).toNat (by omega); simp only [List.length_append] at hm hb hN h0 h1 l2 l4 hs'; obtain ⟨p1, p2, p3⟩ := List.pairwise_append.1 hL; obtain ⟨p4, p5, p6⟩ := List.pairwise_append.1 hR
   have f2 : ∀ x ∈ L1, ∀ y ∈ R2, lt x y := fun x hx y hy => by
    obtain ⟨c, c0, c1, e⟩ := mem_rd P L1 (L2 ++ R1 ++ R2 ++ T) x hx; obtain ⟨d, d0, d1, e'⟩ := mem_rd (P ++ L1 ++ L2 ++ R1) R2 T y hy; simp only [List.length_append] at d0 d1; have z := A c d (by omega) (by omega) (by omega) (by omega); rw [show P ++ (L1 ++ L2) ++ (R1 ++ R2) ++ T = P ++ L1 ++ (L2 ++ R1 ++ R2 ++ T) by simp, e, show P ++ L1 ++ (L2 ++ R1 ++ R2 ++ T) = P ++ L1 ++ L2 ++ R1 ++ R2 ++ T by simp, e'] at z; exact z
   have f3 : ∀ x ∈ R1, ∀ y ∈ L2, lt x y := fun x hx y hy => by
    obtain ⟨c, c0, c1, e⟩ := mem_rd (P ++ L1 ++ L2) R1 (R2 ++ T) x hx; obtain ⟨d, d0, d1, e'⟩ := mem_rd (P ++ L1) L2 (R1 ++ R2 ++ T) y hy; simp only [List.length_append] at c0 c1 d0 d1; have z := B c d (by omega) (by omega) (by omega) (by omega); rw [show P ++ (L1 ++ L2) ++ (R1 ++ R2) ++ T = P ++ L1 ++ L2 ++ R1 ++ (R2 ++ T) by simp, e, show P ++ L1 ++ L2 ++ R1 ++ (R2 ++ T) = P ++ L1 ++ L2 ++ (R1 ++ R2 ++ T) by simp, e'] at z; exact z
   obtain ⟨M, q1, q2, q3⟩ := F84.tail s lt P L1 R1 L2 R2 T a mid t (mid + m - t) b ha (by omega) (by omega) (by omega) (by omega) p1 p4 p2 p5 p3 f2 f3 p6
    (fun v0 v1 T' hT => F84.merge s lt o N P L1 R1 T' a t mid (by omega) v0 v1 ha (by omega) (by omega) p1 p4 (fun x hx y hy => hc x (by simp [hx]) y (by simp [hy])) hT)
    (fun v0 v1 P' hP' hT => F84.merge s lt o N P' L2 R2 T mid (mid + m - t) b (by omega) v0 v1 hP' (by omega) (by omega) p2 p5 (fun x hx y hy => hc x (by simp [hx]) y (by simp [hy])) hT)
    pla3_3
   refine ⟨M, q1.trans ?_, q2, Ev.succ ?_⟩
   ·simp only [List.append_assoc]; refine List.Perm.append_left L1 ?_; rw [← List.append_assoc, ← List.append_assoc]; exact List.Perm.append_right R2 List.perm_append_comm
   ·by_cases c : t < m ∧ m < mid + m - t
    ·simp only [F84.j6, decide_eq_true c, if_true]; have z := F85.f_rot s (P ++ L1) L2 R1 (R2 ++ T) t m (mid + m - t) (by omega) (by omega) pla3_3 pla3_3 pla3_3 pla3_3; refine Ev.bind (a := P ++ L1 ++ R1 ++ L2 ++ R2 ++ T) ?_ q3
     simpa using z
    ·simp only [F84.j6, decide_eq_false c, Bool.false_eq_true, if_false]
     have z : L2 ++ R1 = R1 ++ L2 := by
      by_cases d : L2.length = 0
      ·rw [List.eq_nil_of_length_eq_zero d]; simp
      ·rw [List.eq_nil_of_length_eq_zero (show R1.length = 0 by omega)]; simp
     rw [show P ++ (L1 ++ L2) ++ (R1 ++ R2) ++ T = P ++ L1 ++ (L2 ++ R1) ++ R2 ++ T by simp, z]
     simpa using q3
  by_cases c3 : m > mid
  ·obtain ⟨t, t1, t2, t3, t4, t5⟩ := F84.search s lt o P L R T a m b mid (mid + m) (mid + m - b) mid ha hm hb hL hR hc hs rfl (by omega) (by omega) (by omega) (by omega) (by omega); obtain ⟨M, q1, q2, q3⟩ := fol t (mid + m - b) mid (by omega) t1 t2 (by omega) (by omega) (by omega) t3 t4 (by omega) (by omega); refine ⟨M, q1, q2, Ev.succ ?_⟩; simp only [F84.f, e1, e2, em, e3, e4, if_neg c1, if_neg c2, if_pos c3]; refine Ev.succ ?_; simp only [F84.j4, e5]; exact t5 _ q3
  ·obtain ⟨t, t1, t2, t3, t4, t5⟩ := F84.search s lt o P L R T a m b mid (mid + m) a m ha hm hb hL hR hc hs rfl (by omega) (by omega) (by omega) (by omega) (by omega); obtain ⟨M, q1, q2, q3⟩ := fol t a m (by omega) t1 t2 (by omega) (by omega) (by omega) t3 t4 (by omega) (by omega); refine ⟨M, q1, q2, Ev.succ ?_⟩; simp only [F84.f, e1, e2, em, e3, e4, if_neg c1, if_neg c2, if_neg c3]; refine Ev.succ ?_; simp only [F84.j4, e5]; exact t5 _ q3
inductive F82.Ch (lt : Int → Int → Prop) (bs : Nat) : List Int → List Int → Prop
 | last (x0 x : List Int) : x.length ≤ bs → x.Perm x0 → x.Pairwise lt → F82.Ch lt bs x0 x
 | cons (b0 b y0 y : List Int) : b.length = bs → b.Perm b0 → b.Pairwise lt → F82.Ch lt bs y0 y → F82.Ch lt bs (b0 ++ y0) (b ++ y)
theorem F82.Ch.perm {lt : Int → Int → Prop} {bs : Nat} {x0 x : List Int} (h : F82.Ch lt bs x0 x) : x.Perm x0 := by
 induction h with
 | last _ _ _ p _ => exact p
 | cons _ _ _ _ _ p _ _ ih => exact p.append ih
theorem F82.Ch.small {lt : Int → Int → Prop} {bs : Nat} {x0 x : List Int} (h : F82.Ch lt bs x0 x) (hb : 0 < bs) (hx : x.length ≤ bs) : x.Pairwise lt := by
 cases h with
 | last _ _ _ _ q => exact q
 | cons b0 b y0 y l p q c =>
  have : y.length = 0 := by rw [List.length_append] at hx; omega
  rw [List.eq_nil_of_length_eq_zero this]
  simpa using q
theorem F82.ins (s : List Int) (lt : Int → Int → Prop) (o : Tot lt) (bs : Nat) (hbs : 0 < bs) (hbs' : bs < 1000000) : ∀ (N : Nat) (P Y : List Int) (a n : Int), Y.length ≤ N → a = (P.length : Int) → n = a + Y.length → Y.Pairwise (Cm s lt) → (P ++ Y).length < 1000000 →
  ∃ Y', F82.Ch lt bs Y Y' ∧ ∀ r, Ev (fun k => F82.l1 k (P ++ Y') n bs s) r → Ev (fun k => F82.l0 k (P ++ Y) n bs a (a + bs) s) r
 | N, P, Y, a, n, hN, ha, hn, hY, hs => by
  have hs' : P.length + Y.length < 1000000 := by simpa using hs
  by_cases c : a + bs ≤ n
  ·obtain ⟨N, rfl⟩ : ∃ M, N = M + 1 := ⟨N - 1, by omega⟩; obtain ⟨Y1, Y2, rfl, l1, l2⟩ := split_at Y bs (by omega); simp only [List.length_append] at hn hN hs'; obtain ⟨p1, p2, p3⟩ := List.pairwise_append.1 hY; obtain ⟨M, q1, q2, q3⟩ := F83.f_sort s lt o a (a + bs) P Y1 Y2 ha (by omega) p1 pla3_3; have hM : M.length = bs := by rw [q1.length_eq]; exact l1
   obtain ⟨Y', r1, r2⟩ := F82.ins s lt o bs hbs hbs' N (P ++ M) Y2 (a + bs) n (by omega) pla3_4 (by omega) p2 pla3_3; refine ⟨M ++ Y', .cons _ _ _ _ hM q1 q2 r1, fun r h => Ev.succ ?_⟩; have e1 : wrap64 (a + bs + bs) = a + bs + bs := w64 (by omega) (by omega); simp only [F82.l0, if_pos c, e1]; refine Ev.bind (a := P ++ M ++ Y2) (by simpa using q3) ?_; exact r2 r (by simpa using h)
  ·obtain ⟨M, q1, q2, q3⟩ := F83.f_sort s lt o a n P Y [] ha hn hY (by simpa using hs); have hM : M.length = Y.length := q1.length_eq; refine ⟨M, .last _ _ (by omega) q1 q2, fun r h => Ev.succ ?_⟩; simp only [F82.l0, if_neg c]; refine Ev.bind (a := P ++ M) (by simpa using q3) h
theorem F82.mrg (s : List Int) (lt : Int → Int → Prop) (o : Tot lt) (bs : Nat) (hbs : 0 < bs) (hbs' : bs < 1000000) : ∀ (N : Nat) (P Y0 Y : List Int) (a n : Int), Y.length ≤ N → F82.Ch lt bs Y0 Y → a = (P.length : Int) → n = a + Y.length → Y0.Pairwise (Cm s lt) → (P ++ Y).length < 1000000 →
  ∃ Y', F82.Ch lt (2 * bs) Y0 Y' ∧ ∀ r, Ev (fun k => F82.l1 k (P ++ Y') n ((2 * bs : Nat) : Int) s) r → Ev (fun k => F82.l2 k (P ++ Y) n bs a (a + 2 * bs) s) r := by
 intro N
 induction N with
 | zero =>
  intro P Y0 Y a n hN hC ha hn hY hs; obtain rfl : Y = [] := List.eq_nil_of_length_eq_zero (by omega); refine ⟨[], .last _ _ (by simp) hC.perm List.Pairwise.nil, fun r h => Ev.succ ?_⟩; have g : ¬ a + 2 * bs ≤ n := by simp at hn; omega
  have e1 : wrap64 (a + bs) = a + bs := w64 (by simp at hs; omega) (by simp at hs; omega); have g2 : ¬ a + bs < n := by simp at hn; omega
  have e2 : wrap64 ((bs : Int) * 2) = ((2 * bs : Nat) : Int) := by rw [w64 (by omega) (by omega)]; omega
  simp only [F82.l2, if_neg g, e1, if_neg g2, e2]; exact h
 | succ N ih =>
  intro P Y0 Y a n hN hC ha hn hY hs; have hs' : P.length + Y.length < 1000000 := by simpa using hs
  have e1 : wrap64 (a + bs) = a + bs := w64 (by omega) (by omega); have e2 : wrap64 ((bs : Int) * 2) = ((2 * bs : Nat) : Int) := by rw [w64 (by omega) (by omega)]; omega
  have e3 : wrap64 (2 * (bs : Int)) = 2 * bs := w64 (by omega) (by omega); have e4 : wrap64 (a + 2 * bs + 2 * bs) = a + 2 * bs + 2 * bs := w64 (by omega) (by omega)
  cases hC with
  | last _ _ hl hp hq =>
   refine ⟨Y, .last _ _ (by omega) hp hq, fun r h => Ev.succ ?_⟩; have g : ¬ a + 2 * bs ≤ n := by omega
   have g2 : ¬ a + bs < n := by omega
   simp only [F82.l2, if_neg g, e1, if_neg g2, e2]; exact h
  | cons b0 b1 y0 y hl hp hq hC' =>
   rw [List.length_append] at hn hN hs'; obtain ⟨p1, p2, p3⟩ := List.pairwise_append.1 hY
   cases hC' with
   | last _ _ hl2 hp2 hq2 =>
    by_cases c0 : y.length = 0
    ·obtain rfl : y = [] := List.eq_nil_of_length_eq_zero c0; refine ⟨b1 ++ [], .last _ _ (by simp; omega) (hp.append hp2) (by simpa using hq), fun r h => Ev.succ ?_⟩; have g : ¬ a + 2 * bs ≤ n := by simp at hn; omega
     have g2 : ¬ a + bs < n := by simp at hn; omega
     simp only [F82.l2, if_neg g, e1, if_neg g2, e2]; exact h
    ·obtain ⟨M, q1, q2, q3⟩ := F84.merge s lt o (b1.length + y.length) P b1 y [] a (a + bs) n (Nat.le_refl _) (by omega) (by omega) ha (by omega) (by omega) hq hq2 (fun x hx z hz => p3 x (hp.mem_iff.1 hx) z (hp2.mem_iff.1 hz)) (by simp only [List.length_append, List.length_nil]; omega); have hM : M.length = b1.length + y.length := by rw [q1.length_eq, List.length_append]
     simp only [List.append_nil] at q3; refine ⟨M, .last _ _ (by omega) (q1.trans (hp.append hp2)) q2, fun r h => Ev.succ ?_⟩
     by_cases c1 : y.length = bs
     ·have g : a + 2 * bs ≤ n := by omega
      have en : n = a + 2 * bs := by omega
      simp only [F82.l2, if_pos g, e1, e3, e4]; refine Ev.bind (a := P ++ M) ?_ (Ev.succ ?_)
      ·rw [← en]; simpa using q3
      ·have g3 : ¬ a + 2 * bs + 2 * bs ≤ n := by omega
       have e5 : wrap64 (a + 2 * bs + bs) = a + 2 * bs + bs := w64 (by omega) (by omega); have g4 : ¬ a + 2 * bs + bs < n := by omega
       simp only [F82.l2, if_neg g3, e5, if_neg g4, e2]; exact h
     ·have g : ¬ a + 2 * bs ≤ n := by omega
      have g2 : a + bs < n := by omega
      simp only [F82.l2, if_neg g, e1, if_pos g2, e2]; exact Ev.bind (a := P ++ M) (by simpa using q3) h
   | cons b0' b2 z0 z hl2 hp2 hq2 hC2 =>
    rw [List.length_append] at hn hN hs'; obtain ⟨p4, p5, p6⟩ := List.pairwise_append.1 p2; obtain ⟨M, q1, q2, q3⟩ := F84.merge s lt o (b1.length + b2.length) P b1 b2 z a (a + bs) (a + 2 * bs) (Nat.le_refl _) (by omega) (by omega) ha (by omega) (by omega) hq hq2 (fun x hx w hw => p3 x (hp.mem_iff.1 hx) w (List.mem_append_left _ (hp2.mem_iff.1 hw))) pla3_3; have hM : M.length = 2 * bs := by rw [q1.length_eq, List.length_append]; omega
    obtain ⟨Y', r1, r2⟩ := ih (P ++ M) z0 z (a + 2 * bs) n (by omega) hC2 pla3_4 (by omega) p5 pla3_3; refine ⟨M ++ Y', ?_, fun r h => Ev.succ ?_⟩
    ·rw [← List.append_assoc]; exact .cons _ _ _ _ hM (q1.trans (hp.append hp2)) q2 r1
    ·have g : a + 2 * bs ≤ n := by omega
     simp only [F82.l2, if_pos g, e1, e3, e4]; refine Ev.bind (a := P ++ M ++ z) (by simpa using q3) ?_; exact r2 r (by simpa using h)
theorem F82.all (s : List Int) (lt : Int → Int → Prop) (o : Tot lt) (X0 : List Int) (hX : X0.Pairwise (Cm s lt)) : ∀ (N bs : Nat) (X : List Int) (n : Int), n.toNat - bs ≤ N → 0 < bs → bs < 1000000 → F82.Ch lt bs X0 X → n = X.length → X.length < 400000 →
  ∃ Z, Z.Perm X0 ∧ Z.Pairwise lt ∧ Ev (fun k => F82.l1 k X n bs s) Z
 | N, bs, X, n, hN, hb, hb', hC, hn, hs => by
  by_cases c : (bs : Int) < n
  ·obtain ⟨N, rfl⟩ : ∃ M, N = M + 1 := ⟨N - 1, by omega⟩; obtain ⟨Y', r1, r2⟩ := F82.mrg s lt o bs hb hb' X.length [] X0 X 0 n (Nat.le_refl _) hC rfl (by omega) hX (by simp; omega); have hl : Y'.length = X.length := by rw [r1.perm.length_eq, hC.perm.length_eq]
   obtain ⟨Z, z1, z2, z3⟩ := F82.all s lt o X0 hX N (2 * bs) Y' n (by omega) (by omega) (by omega) r1 (by omega) (by omega); refine ⟨Z, z1, z2, Ev.succ ?_⟩; have e3 : wrap64 (2 * (bs : Int)) = 2 * bs := w64 (by omega) (by omega); simp only [F82.l1, if_pos c, e3]; have z := r2 Z (by simpa using z3)
   simpa using z
  ·refine ⟨X, hC.perm, hC.small hb (by omega), Ev.succ ?_⟩; simp only [F82.l1, if_neg c]; exact Ev.const _
theorem F82.f_sort (s : List Int) (lt : Int → Int → Prop) (o : Tot lt) (X : List Int) (hX : X.Pairwise (Cm s lt)) (n : Int) (hn : n = X.length) (hs : X.length < 400000) :
  ∃ Z, Z.Perm X ∧ Z.Pairwise lt ∧ Ev (fun k => F82.f k X n s) Z := by
 obtain ⟨Y', r1, r2⟩ := F82.ins s lt o 20 (by omega) (by omega) X.length [] X 0 n (Nat.le_refl _) rfl (by omega) hX (by simp; omega); have hl : Y'.length = X.length := r1.perm.length_eq; obtain ⟨Z, z1, z2, z3⟩ := F82.all s lt o X hX _ 20 Y' n (Nat.le_refl _) (by omega) (by omega) r1 (by omega) (by omega); refine ⟨Z, z1, z2, ?_⟩; have := r2 Z (by simpa using z3)
 simpa [F82.f] using this
end Go.Proofs.YtegpappenmhndaaDoor.M
end
