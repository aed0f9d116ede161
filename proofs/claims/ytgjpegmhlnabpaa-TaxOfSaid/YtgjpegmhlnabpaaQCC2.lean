/- What the claims of this seat share, part 2 of 3: what the program's functions compute. -/
import Derived.Laws.Cover1
import Derived.Test.YtgjpegmhlnabpaaQB1
import Derived.Test.YtgjpegmhlnabpaaQCC1
import Derived.Test.YtgjpegmhlnabpaaQRR1
namespace Go.Proofs.Ytgjpegmhlnabpaa.M
theorem ccc2_0 {p : Prop} (h : p := by simp only [Act.put, List.setIfInBounds_toArray, List.set_cons_zero, List.set_cons_succ, i64_w, i32_w]; rfl) : p := h
def acc2_0 : Array Bool := #[false, false, false, false, false, false, false, false, false, false, false, false, false, false, false, false, false, false, false, false, false, false, false, false, false, false, false, false, false, false, false, false, false, false, false, false, false, false, false, false, false, false, false]
def acc2_1 : Array Bool := #[true, false, false, false, false, false, false, false, false, false, false, false, false, false, false, false, false, false, false, false, false, false, false, false, false, false, false, false, false, false, false, false, false, false, false, false, false, false, false, false, false, false, false]
def acc2_2 : Array Bool := #[true, true, false, false, false, false, false, false, false, false, false, false, false, false, false, false, false, false, false, false, false, false, false, false, false, false, false, false, false, false, false, false, false, false, false, false, false, false, false, false, false, false, false]
def acc2_3 : Array Bool := #[true, true, true, false, false, false, false, false, false, false, false, false, false, false, false, false, false, false, false, false, false, false, false, false, false, false, false, false, false, false, false, false, false, false, false, false, false, false, false, false, false, false, false]
def acc2_4 : Array Bool := #[true, true, true, true, false, false, false, false, false, false, false, false, false, false, false, false, false, false, false, false, false, false, false, false, false, false, false, false, false, false, false, false, false, false, false, false, false, false, false, false, false, false, false]
def acc2_5 : Array Bool := #[true, true, true, true, true, false, false, false, false, false, false, false, false, false, false, false, false, false, false, false, false, false, false, false, false, false, false, false, false, false, false, false, false, false, false, false, false, false, false, false, false, false, false]
def acc2_6 : Array Bool := #[true, true, true, true, true, true, false, false, false, false, false, false, false, false, false, false, false, false, false, false, false, false, false, false, false, false, false, false, false, false, false, false, false, false, false, false, false, false, false, false, false, false, false]
def acc2_7 : Array Bool := #[true, true, true, true, true, true, true, false, false, false, false, false, false, false, false, false, false, false, false, false, false, false, false, false, false, false, false, false, false, false, false, false, false, false, false, false, false, false, false, false, false, false, false]
def acc2_8 : Array Bool := #[true, true, true, true, true, true, true, true, false, false, false, false, false, false, false, false, false, false, false, false, false, false, false, false, false, false, false, false, false, false, false, false, false, false, false, false, false, false, false, false, false, false, false]
def acc2_9 : Array Bool := #[true, true, true, true, true, true, true, true, true, false, false, false, false, false, false, false, false, false, false, false, false, false, false, false, false, false, false, false, false, false, false, false, false, false, false, false, false, false, false, false, false, false, false]
def acc2_10 : Array Bool := #[true, true, true, true, true, true, true, true, true, true, false, false, false, false, false, false, false, false, false, false, false, false, false, false, false, false, false, false, false, false, false, false, false, false, false, false, false, false, false, false, false, false, false]
def acc2_11 : Array Bool := #[true, true, true, true, true, true, true, true, true, true, true, false, false, false, false, false, false, false, false, false, false, false, false, false, false, false, false, false, false, false, false, false, false, false, false, false, false, false, false, false, false, false, false]
def acc2_12 : Array Bool := #[true, true, true, true, true, true, true, true, true, true, true, true, false, false, false, false, false, false, false, false, false, false, false, false, false, false, false, false, false, false, false, false, false, false, false, false, false, false, false, false, false, false, false]
def acc2_13 : Array Bool := #[true, true, true, true, true, true, true, true, true, true, true, true, true, false, false, false, false, false, false, false, false, false, false, false, false, false, false, false, false, false, false, false, false, false, false, false, false, false, false, false, false, false, false]
def acc2_14 : Array Bool := #[true, true, true, true, true, true, true, true, true, true, true, true, true, true, false, false, false, false, false, false, false, false, false, false, false, false, false, false, false, false, false, false, false, false, false, false, false, false, false, false, false, false, false]
def acc2_15 : Array Bool := #[true, true, true, true, true, true, true, true, true, true, true, true, true, true, true, false, false, false, false, false, false, false, false, false, false, false, false, false, false, false, false, false, false, false, false, false, false, false, false, false, false, false, false]
def acc2_16 : Array Bool := #[true, true, true, true, true, true, true, true, true, true, true, true, true, true, true, true, false, false, false, false, false, false, false, false, false, false, false, false, false, false, false, false, false, false, false, false, false, false, false, false, false, false, false]
def acc2_17 : Array Bool := #[true, true, true, true, true, true, true, true, true, true, true, true, true, true, true, true, true, false, false, false, false, false, false, false, false, false, false, false, false, false, false, false, false, false, false, false, false, false, false, false, false, false, false]
def acc2_18 : Array Bool := #[true, true, true, true, true, true, true, true, true, true, true, true, true, true, true, true, true, true, false, false, false, false, false, false, false, false, false, false, false, false, false, false, false, false, false, false, false, false, false, false, false, false, false]
def acc2_19 : Array Bool := #[true, true, true, true, true, true, true, true, true, true, true, true, true, true, true, true, true, true, true, false, false, false, false, false, false, false, false, false, false, false, false, false, false, false, false, false, false, false, false, false, false, false, false]
def acc2_20 : Array Bool := #[true, true, true, true, true, true, true, true, true, true, true, true, true, true, true, true, true, true, true, true, false, false, false, false, false, false, false, false, false, false, false, false, false, false, false, false, false, false, false, false, false, false, false]
def acc2_21 : Array Bool := #[true, true, true, true, true, true, true, true, true, true, true, true, true, true, true, true, true, true, true, true, true, false, false, false, false, false, false, false, false, false, false, false, false, false, false, false, false, false, false, false, false, false, false]
def acc2_22 : Array Bool := #[true, true, true, true, true, true, true, true, true, true, true, true, true, true, true, true, true, true, true, true, true, true, false, false, false, false, false, false, false, false, false, false, false, false, false, false, false, false, false, false, false, false, false]
def acc2_23 : Array Bool := #[true, true, true, true, true, true, true, true, true, true, true, true, true, true, true, true, true, true, true, true, true, true, true, false, false, false, false, false, false, false, false, false, false, false, false, false, false, false, false, false, false, false, false]
def acc2_24 : Array Bool := #[true, true, true, true, true, true, true, true, true, true, true, true, true, true, true, true, true, true, true, true, true, true, true, true, false, false, false, false, false, false, false, false, false, false, false, false, false, false, false, false, false, false, false]
def acc2_25 : Array Bool := #[true, true, true, true, true, true, true, true, true, true, true, true, true, true, true, true, true, true, true, true, true, true, true, true, true, false, false, false, false, false, false, false, false, false, false, false, false, false, false, false, false, false, false]
def acc2_26 : Array Bool := #[true, true, true, true, true, true, true, true, true, true, true, true, true, true, true, true, true, true, true, true, true, true, true, true, true, true, false, false, false, false, false, false, false, false, false, false, false, false, false, false, false, false, false]
def acc2_27 : Array Bool := #[true, true, true, true, true, true, true, true, true, true, true, true, true, true, true, true, true, true, true, true, true, true, true, true, true, true, true, false, false, false, false, false, false, false, false, false, false, false, false, false, false, false, false]
def acc2_28 : Array Bool := #[true, true, true, true, true, true, true, true, true, true, true, true, true, true, true, true, true, true, true, true, true, true, true, true, true, true, true, true, false, false, false, false, false, false, false, false, false, false, false, false, false, false, false]
def acc2_29 : Array Bool := #[true, true, true, true, true, true, true, true, true, true, true, true, true, true, true, true, true, true, true, true, true, true, true, true, true, true, true, true, true, false, false, false, false, false, false, false, false, false, false, false, false, false, false]
def acc2_30 : Array Bool := #[true, true, true, true, true, true, true, true, true, true, true, true, true, true, true, true, true, true, true, true, true, true, true, true, true, true, true, true, true, true, false, false, false, false, false, false, false, false, false, false, false, false, false]
def acc2_31 : Array Bool := #[true, true, true, true, true, true, true, true, true, true, true, true, true, true, true, true, true, true, true, true, true, true, true, true, true, true, true, true, true, true, true, false, false, false, false, false, false, false, false, false, false, false, false]
def acc2_32 : Array Bool := #[true, true, true, true, true, true, true, true, true, true, true, true, true, true, true, true, true, true, true, true, true, true, true, true, true, true, true, true, true, true, true, true, false, false, false, false, false, false, false, false, false, false, false]
def acc2_33 : Array Bool := #[true, true, true, true, true, true, true, true, true, true, true, true, true, true, true, true, true, true, true, true, true, true, true, true, true, true, true, true, true, true, true, true, true, false, false, false, false, false, false, false, false, false, false]
def acc2_34 : Array Bool := #[true, true, true, true, true, true, true, true, true, true, true, true, true, true, true, true, true, true, true, true, true, true, true, true, true, true, true, true, true, true, true, true, true, true, false, false, false, false, false, false, false, false, false]
def acc2_35 : Array Bool := #[true, true, true, true, true, true, true, true, true, true, true, true, true, true, true, true, true, true, true, true, true, true, true, true, true, true, true, true, true, true, true, true, true, true, false, true, false, false, false, false, false, false, false]
def acc2_36 : Array Bool := #[true, true, true, true, true, true, true, true, true, true, true, true, true, true, true, true, true, true, true, true, true, true, true, true, true, true, true, true, true, true, true, true, true, true, true, false, false, false, false, false, false, false, false]
def acc2_37 : Array Bool := #[true, true, true, true, true, true, true, true, true, true, true, true, true, true, true, true, true, true, true, true, true, true, true, true, true, true, true, true, true, true, true, true, true, true, false, true, true, false, false, false, false, false, false]
def acc2_38 : Array Bool := #[true, true, true, true, true, true, true, true, true, true, true, true, true, true, true, true, true, true, true, true, true, true, true, true, true, true, true, true, true, true, true, true, true, true, true, true, false, false, false, false, false, false, false]
def acc2_39 : Array Bool := #[true, true, true, true, true, true, true, true, true, true, true, true, true, true, true, true, true, true, true, true, true, true, true, true, true, true, true, true, true, true, true, true, true, true, false, true, true, true, false, false, false, false, false]
def acc2_40 : Array Bool := #[true, true, true, true, true, true, true, true, true, true, true, true, true, true, true, true, true, true, true, true, true, true, true, true, true, true, true, true, true, true, true, true, true, true, true, true, true, false, false, false, false, false, false]
def acc2_41 : Array Bool := #[true, true, true, true, true, true, true, true, true, true, true, true, true, true, true, true, true, true, true, true, true, true, true, true, true, true, true, true, true, true, true, true, true, true, false, true, true, true, true, false, false, false, false]
def acc2_42 : Array Bool := #[true, true, true, true, true, true, true, true, true, true, true, true, true, true, true, true, true, true, true, true, true, true, true, true, true, true, true, true, true, true, true, true, true, true, true, true, true, true, false, false, false, false, false]
def acc2_43 : Array Bool := #[true, true, true, true, true, true, true, true, true, true, true, true, true, true, true, true, true, true, true, true, true, true, true, true, true, true, true, true, true, true, true, true, true, true, true, true, true, true, true, false, false, false, false]
def acc2_44 : Array Bool := #[true, true, true, true, true, true, true, true, true, true, true, true, true, true, true, true, true, true, true, true, true, true, true, true, true, true, true, true, true, true, true, true, true, true, true, true, true, true, true, true, false, false, false]
def acc2_45 : Array Bool := #[true, true, true, true, true, true, true, true, true, true, true, true, true, true, true, true, true, true, true, true, true, true, true, true, true, true, true, true, true, true, true, true, true, true, true, true, true, true, true, true, true, false, false]
def acc2_46 : Array Bool := #[true, true, true, true, true, true, true, true, true, true, true, true, true, true, true, true, true, true, true, true, true, true, true, true, true, true, true, true, true, true, true, true, true, true, true, true, true, true, true, true, true, true, false]
def acc2_47 : Array Bool := #[true, true, true, true, true, true, true, true, true, true, true, true, true, true, true, true, true, true, true, true, true, true, true, true, true, true, true, true, true, true, true, true, true, true, true, true, true, true, true, true, true, true, true]
end Go.Proofs.Ytgjpegmhlnabpaa.M
section
namespace Go.Proofs.Ytgjpegmhlnabpaa.M
open Go.RowKit Go.Proofs.YtgjpegmhlnabpaaW.PrintWords Go.Proofs.YtgjpegmhlnabpaaW.PrintLast Go.Proofs.YtgjpegmhlnabpaaW.PrintMore
attribute [local go_sem] max2_int min2_int max_two min_two max_three min_three max_four min_four
set_option linter.unusedVariables false
set_option linter.unusedSimpArgs false
def accountingref25_Codes.l0 : Nat → List (S59) → Int → Option (Bool)
  | 0, _, _ => none
  | k + 1, x0, x3 => if x3 < (x0.length : Int) then (if 0 ≤ x3 then ((accountingref06_Code.f k ((rd_T59 x0 x3).f0)).bind fun t102 => (if t102 = true then ((accountingref06_Code.f k ((rd_T59 x0 x3).f1)).bind fun t104 => (if t104 = true then ((accountingref25_Rate.f k ((rd_T59 x0 x3).f2.f0) ((rd_T59 x0 x3).f2.f1)).bind fun t106 => (if t106 = true then (if x3 > 0 then (if 0 ≤ (wrap64 (x3 - 1)) then (if (wrap64 (x3 - 1)) < (x0.length : Int) then (if ((Op.bytesLess (((rd_T59 x0 (wrap64 (x3 - 1))).f0).toList) (((rd_T59 x0 x3).f0).toList)) = true) then (accountingref25_Codes.l0 k x0 (wrap64 (x3 + 1))) else (some false)) else (none)) else (none)) else (accountingref25_Codes.l0 k x0 (wrap64 (x3 + 1)))) else (some false))) else (some false))) else (some false))) else (none)) else (some true)
def accountingref25_Codes.f (k : Nat) (l0 : List (S59)) : Option (Bool) := if (l0.length : Int) > 200 then (some false) else (accountingref25_Codes.l0 k l0 0)
theorem accountingref25_Codes.mono_l : ∀ k, (∀ y0 y1, LeO (accountingref25_Codes.l0 k y0 y1) (accountingref25_Codes.l0 (k + 1) y0 y1))
  | 0 => fun _ _ r h => by simp [accountingref25_Codes.l0] at h
  | k + 1 => by
    have ih0 := accountingref25_Codes.mono_l k
    · intro y0 y1
      unfold accountingref25_Codes.l0
      repeat' first
      | (with_reducible exact ih0 _ _)
      | (with_reducible exact accountingref06_Code.mono _ _)
      | (with_reducible exact accountingref25_Rate.mono _ _ _)
      | (with_reducible exact LeO.refl _)
      | (with_reducible exact LeO.none _)
      | (with_reducible refine LeO.ite ?_ ?_)
      | (with_reducible refine LeO.bind ?_ (fun _ => ?_))
      | exact ih0 _ _
      | exact accountingref06_Code.mono _ _
      | exact accountingref25_Rate.mono _ _ _
      | exact LeO.none _
      | refine LeO.ite ?_ ?_
      | refine LeO.bind ?_ (fun _ => ?_)
theorem accountingref25_Codes.mono : ∀ a0 k, LeO (accountingref25_Codes.f k a0) (accountingref25_Codes.f (k + 1) a0) := by
 intro a0 k; have ih0 := accountingref25_Codes.mono_l k
 unfold accountingref25_Codes.f
 repeat' first
   | (with_reducible exact ih0 _ _)
   | (with_reducible exact accountingref06_Code.mono _ _)
   | (with_reducible exact accountingref25_Rate.mono _ _ _)
   | (with_reducible exact LeO.refl _)
   | (with_reducible exact LeO.none _)
   | (with_reducible refine LeO.ite ?_ ?_)
   | (with_reducible refine LeO.bind ?_ (fun _ => ?_))
   | exact ih0 _ _
   | exact accountingref06_Code.mono _ _
   | exact accountingref25_Rate.mono _ _ _
   | exact LeO.none _
   | refine LeO.ite ?_ ?_
   | refine LeO.bind ?_ (fun _ => ?_)
def accountingref25_Codes.T6 : Bool × List (List Nat × List Nat) := (true, [([], []), ([], []), ([0, 1], [0, 1]), ([2], [2]), ([3], [3]), ([4], [4]), ([5], [5]), ([6, 5], [6]), ([7], [7]), ([7], [7]), ([8, 9, 7], [7, 8, 9]), ([10, 7], [7, 10]), ([11, 7], [7, 11]), ([12, 7, 7], [7, 12]), ([13, 7], [7, 13]), ([7, 14], [7, 14]), ([15, 13], [15]), ([16], [16]), ([16], [16]), ([17, 18, 16], [16, 17, 18]), ([19, 16], [16, 19]), ([20, 16], [16, 20]), ([21, 16, 16], [16, 21]), ([22, 16], [16, 22]), ([16, 23], [16, 23]), ([24, 22], [24]), ([25], [25]), ([26, 25], [25, 26]), ([27, 25, 25], [25, 27]), ([28], [28]), ([28], [28]), ([30, 28], [28, 30]), ([29, 31, 28], [28, 29, 31]), ([32, 28], [28, 32]), ([33, 28], [28, 33]), ([28], [28]), ([28], [28]), ([35, 36, 28], [28, 35, 36]), ([37, 28], [28, 37]), ([38, 28], [28, 38]), ([34, 39, 28], [28, 34, 39]), ([28, 40, 25], [25, 28, 40]), ([25, 41], [25, 41])])
def accountingref25_Codes.B6 : List Nat := [0, 0, 3, 7, 15, 31, 63, 127, 255, 255, 1023, 2047, 4095, 8191, 16383, 32767, 65535, 131071, 131071, 524287, 1048575, 2097151, 4194303, 8388607, 16777215, 33554431, 67108863, 134217727, 268435455, 536870911, 536870911, 1610612735, 4294967295, 8589934591, 17179869183, 536870911, 536870911, 103616086015, 241055039487, 515932946431, 1099511627775, 2199023255551, 4398046511103]
theorem accountingref25_Codes.tab6 : rtab .any (opsOf Try.f16 6) = accountingref25_Codes.T6 := by kernel_rfl
theorem accountingref25_Codes.bits6 : waitsOk accountingref25_Codes.T6.2 accountingref25_Codes.B6 = true := by kernel_rfl
set_option maxHeartbeats 100000000 in
set_option maxRecDepth 100000 in
theorem accountingref25_Codes.calls (k : Nat) (A0 : Option Addr) (c0 : Nat) (l0 : List (S59)) (r : Bool) (w : World) (hr0 : Kd.C k59 w A0 l0.length l0) (hc0 : l0.length ≤ c0) (h : accountingref25_Codes.f k l0 = some r) :
    Calls Try.prog 16 #[.slice A0 l0.length c0] w fun e w' => e = .returned (.bool r) ∧ Below w.heap.size w w' := by
 have hu9 := Try.underlying9; have hu23 := Try.underlying23; have HR0 := Aside0.mk hr0; have HC0 := Aside0.mk hc0; clear hr0 hc0; have HB := Aside0.mk (Below.refl w.heap.size w); have H : (if (l0.length : Int) > 200 then (some false) else (accountingref25_Codes.l0 k l0 0)) = some r := h; clear h
 by_cases c2 : (l0.length : Int) > 200
 ·rw [if_pos c2] at H; have c2b0 : decide (200 < (l0.length : Int)) = true := decide_eq_true c2; have c2b1 : decide (200 < l0.length) = true := decide_eq_true (by omega); clear c2; obtain rfl := Option.some.inj H; go_enter Try.func16, Try.ntmps16
  go_wp2
  go_ret
  exact ⟨prr1_6, prr1_4⟩
 ·rw [if_neg c2] at H; have c2b0 : decide (200 < (l0.length : Int)) = false := decide_eq_false c2; have c2b1 : decide (200 < l0.length) = false := decide_eq_false (by omega); clear c2; have H' := Aside0.mk H; clear H; go_enter Try.func16, Try.ntmps16
  go_wp2
  go_loopg [3] k (fun kq v3 w' => ∃ (x3_1 : Int), v3 = .int .i64 x3_1 ∧ Aside0 (accountingref25_Codes.l0 kq l0 x3_1 = some r) ∧ Aside0 (kq ≤ k) ∧ Aside0 (Below w.heap.size w w'))
  case atStart => exact ⟨(0), prr1_0, H', ⟨Nat.le_refl _⟩, ⟨prr1_4⟩⟩
  case round =>
   as_aux_lemma =>
    clear H'; (try clear c1); (try clear c2); (try clear c2b0); (try clear c2b1); (try clear p2); obtain ⟨x3_1, rfl, HA, HK1, HB⟩ := hrel
    cases gk with
    | zero => exact absurd HA.out (by simp [accountingref25_Codes.l0])
    | succ k1 =>
     have H := HA.out; clear HA; simp only [accountingref25_Codes.l0] at H
     by_cases c3 : x3_1 < (l0.length : Int)
     ·rw [if_pos c3] at H; have c3b0 : decide (x3_1 < (l0.length : Int)) = true := decide_eq_true c3; clear c3
      by_cases c4 : 0 ≤ x3_1
      ·rw [if_pos c4] at H; have c4b0 : decide (0 ≤ x3_1) = true := decide_eq_true c4; clear c4; replace H := Option.bind_eq_some_iff.mp H; obtain ⟨t102, A50, H⟩ := H; replace H : (if t102 = true then ((accountingref06_Code.f k1 ((rd_T59 l0 x3_1).f1)).bind fun t104 => (if t104 = true then ((accountingref25_Rate.f k1 ((rd_T59 l0 x3_1).f2.f0) ((rd_T59 l0 x3_1).f2.f1)).bind fun t106 => (if t106 = true then (if x3_1 > 0 then (if 0 ≤ (wrap64 (x3_1 - 1)) then (if (wrap64 (x3_1 - 1)) < (l0.length : Int) then (if ((Op.bytesLess (((rd_T59 l0 (wrap64 (x3_1 - 1))).f0).toList) (((rd_T59 l0 x3_1).f0).toList)) = true) then (accountingref25_Codes.l0 k1 l0 (wrap64 (x3_1 + 1))) else (some false)) else (none)) else (none)) else (accountingref25_Codes.l0 k1 l0 (wrap64 (x3_1 + 1)))) else (some false))) else (some false))) else (some false)) = some r := H; have A5 := Aside0.mk A50; clear A50
       by_cases c6 : t102 = true
       ·subst c6; have H1 : ((accountingref06_Code.f k1 ((rd_T59 l0 x3_1).f1)).bind fun t104 => (if t104 = true then ((accountingref25_Rate.f k1 ((rd_T59 l0 x3_1).f2.f0) ((rd_T59 l0 x3_1).f2.f1)).bind fun t106 => (if t106 = true then (if x3_1 > 0 then (if 0 ≤ (wrap64 (x3_1 - 1)) then (if (wrap64 (x3_1 - 1)) < (l0.length : Int) then (if ((Op.bytesLess (((rd_T59 l0 (wrap64 (x3_1 - 1))).f0).toList) (((rd_T59 l0 x3_1).f0).toList)) = true) then (accountingref25_Codes.l0 k1 l0 (wrap64 (x3_1 + 1))) else (some false)) else (none)) else (none)) else (accountingref25_Codes.l0 k1 l0 (wrap64 (x3_1 + 1)))) else (some false))) else (some false))) = some r := by rw [if_pos rfl] at H; exact H
        clear H; have H := H1; clear H1; replace H := Option.bind_eq_some_iff.mp H; obtain ⟨t104, A70, H⟩ := H; replace H : (if t104 = true then ((accountingref25_Rate.f k1 ((rd_T59 l0 x3_1).f2.f0) ((rd_T59 l0 x3_1).f2.f1)).bind fun t106 => (if t106 = true then (if x3_1 > 0 then (if 0 ≤ (wrap64 (x3_1 - 1)) then (if (wrap64 (x3_1 - 1)) < (l0.length : Int) then (if ((Op.bytesLess (((rd_T59 l0 (wrap64 (x3_1 - 1))).f0).toList) (((rd_T59 l0 x3_1).f0).toList)) = true) then (accountingref25_Codes.l0 k1 l0 (wrap64 (x3_1 + 1))) else (some false)) else (none)) else (none)) else (accountingref25_Codes.l0 k1 l0 (wrap64 (x3_1 + 1)))) else (some false))) else (some false)) = some r := H; have A7 := Aside0.mk A70; clear A70
        by_cases c8 : t104 = true
        ·subst c8; have H1 : ((accountingref25_Rate.f k1 ((rd_T59 l0 x3_1).f2.f0) ((rd_T59 l0 x3_1).f2.f1)).bind fun t106 => (if t106 = true then (if x3_1 > 0 then (if 0 ≤ (wrap64 (x3_1 - 1)) then (if (wrap64 (x3_1 - 1)) < (l0.length : Int) then (if ((Op.bytesLess (((rd_T59 l0 (wrap64 (x3_1 - 1))).f0).toList) (((rd_T59 l0 x3_1).f0).toList)) = true) then (accountingref25_Codes.l0 k1 l0 (wrap64 (x3_1 + 1))) else (some false)) else (none)) else (none)) else (accountingref25_Codes.l0 k1 l0 (wrap64 (x3_1 + 1)))) else (some false))) = some r := by rw [if_pos rfl] at H; exact H
         clear H; have H := H1; clear H1; replace H := Option.bind_eq_some_iff.mp H; obtain ⟨t106, A90, H⟩ := H; replace H : (if t106 = true then (if x3_1 > 0 then (if 0 ≤ (wrap64 (x3_1 - 1)) then (if (wrap64 (x3_1 - 1)) < (l0.length : Int) then (if ((Op.bytesLess (((rd_T59 l0 (wrap64 (x3_1 - 1))).f0).toList) (((rd_T59 l0 x3_1).f0).toList)) = true) then (accountingref25_Codes.l0 k1 l0 (wrap64 (x3_1 + 1))) else (some false)) else (none)) else (none)) else (accountingref25_Codes.l0 k1 l0 (wrap64 (x3_1 + 1)))) else (some false)) = some r := H; have A9 := Aside0.mk A90; clear A90
         by_cases c10 : t106 = true
         ·subst c10; have H1 : (if x3_1 > 0 then (if 0 ≤ (wrap64 (x3_1 - 1)) then (if (wrap64 (x3_1 - 1)) < (l0.length : Int) then (if ((Op.bytesLess (((rd_T59 l0 (wrap64 (x3_1 - 1))).f0).toList) (((rd_T59 l0 x3_1).f0).toList)) = true) then (accountingref25_Codes.l0 k1 l0 (wrap64 (x3_1 + 1))) else (some false)) else (none)) else (none)) else (accountingref25_Codes.l0 k1 l0 (wrap64 (x3_1 + 1)))) = some r := by rw [if_pos rfl] at H; exact H
          clear H; have H := H1; clear H1
          by_cases c11 : x3_1 > 0
          ·rw [if_pos c11] at H; have c11b0 : decide (0 < x3_1) = true := decide_eq_true c11; clear c11; obtain ⟨ji12, hji12⟩ : ∃ j_ : Int, (wrap64 (x3_1 - 1)) = j_ := ⟨_, rfl⟩; replace H : (if 0 ≤ (ji12) then (if (ji12) < (l0.length : Int) then (if ((Op.bytesLess (((rd_T59 l0 (ji12)).f0).toList) (((rd_T59 l0 x3_1).f0).toList)) = true) then (accountingref25_Codes.l0 k1 l0 (wrap64 (x3_1 + 1))) else (some false)) else (none)) else (none)) = some r := by first | (rw [hji12] at H; exact H) | (simp only [hji12] at H ⊢; exact H)
           (try rw [hji12] at A5); (try rw [hji12] at A7); (try rw [hji12] at A9); have hji12w : (IntKind.i64.wrap (x3_1 - 1)) = ji12 := (i64_w _).trans hji12
           by_cases c13 : 0 ≤ (ji12)
           ·rw [if_pos c13] at H; have c13b0 : decide (0 ≤ (ji12)) = true := decide_eq_true c13; clear c13
            by_cases c14 : (ji12) < (l0.length : Int)
            ·rw [if_pos c14] at H; have c14b0 : decide ((ji12) < (l0.length : Int)) = true := decide_eq_true c14; clear c14
             by_cases c15 : ((Op.bytesLess (((rd_T59 l0 (ji12)).f0).toList) (((rd_T59 l0 x3_1).f0).toList)) = true)
             ·rw [if_pos c15] at H; have c15b0 : (Op.bytesLess (((rd_T59 l0 (ji12)).f0).toList) (((rd_T59 l0 x3_1).f0).toList)) = true := c15; clear c15; have H' := Aside0.mk H; clear H; (try go_wp2); have n0_ := Aside0.mk (below_drew1 HB.out); clear HB; have HB := n0_; clear n0_; have p101 : 0 ≤ (x3_1 : Int) := of_decide_eq_true pcc1_0; have q101 : x3_1 < (l0.length : Int) := of_decide_eq_true pcc1_0; obtain ⟨ad101, e101, hx101_0, hx101_1, hx101_2, hx101_3⟩ := at_T59 HR0.out x3_1 p101 q101; have hw101_3 := hx101_3; have hw101_2 := hx101_2; have hw101_1 := hx101_1; have hw101_0 := hx101_0
              cases e101
              replace hx101_0 := (HB.out.cell (World.block_lt_of_cell? w _ hx101_0)).trans hx101_0; replace hx101_1 := (HB.out.cell (World.block_lt_of_cell? w _ hx101_1)).trans hx101_1; replace hx101_2 := (HB.out.cell (World.block_lt_of_cell? w _ hx101_2)).trans hx101_2; replace hx101_3 := (HB.out.cell (World.block_lt_of_cell? w _ hx101_3)).trans hx101_3; replace p101 := eq_true p101; replace q101 := eq_true q101; have p103 : 0 ≤ (x3_1 : Int) := of_decide_eq_true pcc1_0; have q103 : x3_1 < (l0.length : Int) := of_decide_eq_true pcc1_0; obtain ⟨ad103, e103, hx103_0, hx103_1, hx103_2, hx103_3⟩ := at_T59 HR0.out x3_1 p103 q103; have hw103_3 := hx103_3; have hw103_2 := hx103_2; have hw103_1 := hx103_1; have hw103_0 := hx103_0; obtain rfl : ad101 = ad103 := (by injection e103); replace hx103_0 := (HB.out.cell (World.block_lt_of_cell? w _ hx103_0)).trans hx103_0; replace hx103_1 := (HB.out.cell (World.block_lt_of_cell? w _ hx103_1)).trans hx103_1; replace hx103_2 := (HB.out.cell (World.block_lt_of_cell? w _ hx103_2)).trans hx103_2; replace hx103_3 := (HB.out.cell (World.block_lt_of_cell? w _ hx103_3)).trans hx103_3; replace p103 := eq_true p103; replace q103 := eq_true q103; have p105 : 0 ≤ (x3_1 : Int) := of_decide_eq_true pcc1_0; have q105 : x3_1 < (l0.length : Int) := of_decide_eq_true pcc1_0; obtain ⟨ad105, e105, hx105_0, hx105_1, hx105_2, hx105_3⟩ := at_T59 HR0.out x3_1 p105 q105; have hw105_3 := hx105_3; have hw105_2 := hx105_2; have hw105_1 := hx105_1; have hw105_0 := hx105_0; obtain rfl : ad101 = ad105 := (by injection e105); replace hx105_0 := (HB.out.cell (World.block_lt_of_cell? w _ hx105_0)).trans hx105_0; replace hx105_1 := (HB.out.cell (World.block_lt_of_cell? w _ hx105_1)).trans hx105_1; replace hx105_2 := (HB.out.cell (World.block_lt_of_cell? w _ hx105_2)).trans hx105_2; replace hx105_3 := (HB.out.cell (World.block_lt_of_cell? w _ hx105_3)).trans hx105_3; replace p105 := eq_true p105; replace q105 := eq_true q105; have p107 : 0 ≤ ((ji12) : Int) := of_decide_eq_true pcc1_0; have q107 : (ji12) < (l0.length : Int) := of_decide_eq_true pcc1_0; obtain ⟨ad107, e107, hx107_0, hx107_1, hx107_2, hx107_3⟩ := at_T59 HR0.out (ji12) p107 q107; have hw107_3 := hx107_3; have hw107_2 := hx107_2; have hw107_1 := hx107_1; have hw107_0 := hx107_0; obtain rfl : ad101 = ad107 := (by injection e107); replace hx107_0 := (HB.out.cell (World.block_lt_of_cell? w _ hx107_0)).trans hx107_0; replace hx107_1 := (HB.out.cell (World.block_lt_of_cell? w _ hx107_1)).trans hx107_1; replace hx107_2 := (HB.out.cell (World.block_lt_of_cell? w _ hx107_2)).trans hx107_2; replace hx107_3 := (HB.out.cell (World.block_lt_of_cell? w _ hx107_3)).trans hx107_3; replace p107 := eq_true p107; replace q107 := eq_true q107; have p108 : 0 ≤ (x3_1 : Int) := of_decide_eq_true pcc1_0; have q108 : x3_1 < (l0.length : Int) := of_decide_eq_true pcc1_0; obtain ⟨ad108, e108, hx108_0, hx108_1, hx108_2, hx108_3⟩ := at_T59 HR0.out x3_1 p108 q108; have hw108_3 := hx108_3; have hw108_2 := hx108_2; have hw108_1 := hx108_1; have hw108_0 := hx108_0; obtain rfl : ad101 = ad108 := (by injection e108); replace hx108_0 := (HB.out.cell (World.block_lt_of_cell? w _ hx108_0)).trans hx108_0; replace hx108_1 := (HB.out.cell (World.block_lt_of_cell? w _ hx108_1)).trans hx108_1; replace hx108_2 := (HB.out.cell (World.block_lt_of_cell? w _ hx108_2)).trans hx108_2; replace hx108_3 := (HB.out.cell (World.block_lt_of_cell? w _ hx108_3)).trans hx108_3; replace p108 := eq_true p108; replace q108 := eq_true q108; refine start_ (n := 43) (S := fun w' => w'.cell? (ad101.add ((x3_1).toNat * 4)) = some (.string ((rd_T59 l0 x3_1).f0)) ∧ w'.cell? ⟨(ad101.add ((x3_1).toNat * 4)).block, (ad101.add ((x3_1).toNat * 4)).off + 1, none⟩ = some (.string ((rd_T59 l0 x3_1).f1)) ∧ w'.cell? ⟨(ad101.add ((x3_1).toNat * 4)).block, (ad101.add ((x3_1).toNat * 4)).off + 2, none⟩ = some (.int .i64 ((rd_T59 l0 x3_1).f2.f0)) ∧ w'.cell? ⟨(ad101.add ((x3_1).toNat * 4)).block, (ad101.add ((x3_1).toNat * 4)).off + 3, none⟩ = some (.int .i64 ((rd_T59 l0 x3_1).f2.f1)) ∧ w'.cell? (ad101.add ((x3_1).toNat * 4)) = some (.string ((rd_T59 l0 x3_1).f0)) ∧ w'.cell? ⟨(ad101.add ((x3_1).toNat * 4)).block, (ad101.add ((x3_1).toNat * 4)).off + 1, none⟩ = some (.string ((rd_T59 l0 x3_1).f1)) ∧ w'.cell? ⟨(ad101.add ((x3_1).toNat * 4)).block, (ad101.add ((x3_1).toNat * 4)).off + 2, none⟩ = some (.int .i64 ((rd_T59 l0 x3_1).f2.f0)) ∧ w'.cell? ⟨(ad101.add ((x3_1).toNat * 4)).block, (ad101.add ((x3_1).toNat * 4)).off + 3, none⟩ = some (.int .i64 ((rd_T59 l0 x3_1).f2.f1)) ∧ w'.cell? (ad101.add ((x3_1).toNat * 4)) = some (.string ((rd_T59 l0 x3_1).f0)) ∧ w'.cell? ⟨(ad101.add ((x3_1).toNat * 4)).block, (ad101.add ((x3_1).toNat * 4)).off + 1, none⟩ = some (.string ((rd_T59 l0 x3_1).f1)) ∧ w'.cell? ⟨(ad101.add ((x3_1).toNat * 4)).block, (ad101.add ((x3_1).toNat * 4)).off + 2, none⟩ = some (.int .i64 ((rd_T59 l0 x3_1).f2.f0)) ∧ w'.cell? ⟨(ad101.add ((x3_1).toNat * 4)).block, (ad101.add ((x3_1).toNat * 4)).off + 3, none⟩ = some (.int .i64 ((rd_T59 l0 x3_1).f2.f1)) ∧ w'.cell? (ad101.add (((ji12)).toNat * 4)) = some (.string ((rd_T59 l0 (ji12)).f0)) ∧ w'.cell? ⟨(ad101.add (((ji12)).toNat * 4)).block, (ad101.add (((ji12)).toNat * 4)).off + 1, none⟩ = some (.string ((rd_T59 l0 (ji12)).f1)) ∧ w'.cell? ⟨(ad101.add (((ji12)).toNat * 4)).block, (ad101.add (((ji12)).toNat * 4)).off + 2, none⟩ = some (.int .i64 ((rd_T59 l0 (ji12)).f2.f0)) ∧ w'.cell? ⟨(ad101.add (((ji12)).toNat * 4)).block, (ad101.add (((ji12)).toNat * 4)).off + 3, none⟩ = some (.int .i64 ((rd_T59 l0 (ji12)).f2.f1)) ∧ w'.cell? (ad101.add ((x3_1).toNat * 4)) = some (.string ((rd_T59 l0 x3_1).f0)) ∧ w'.cell? ⟨(ad101.add ((x3_1).toNat * 4)).block, (ad101.add ((x3_1).toNat * 4)).off + 1, none⟩ = some (.string ((rd_T59 l0 x3_1).f1)) ∧ w'.cell? ⟨(ad101.add ((x3_1).toNat * 4)).block, (ad101.add ((x3_1).toNat * 4)).off + 2, none⟩ = some (.int .i64 ((rd_T59 l0 x3_1).f2.f0)) ∧ w'.cell? ⟨(ad101.add ((x3_1).toNat * 4)).block, (ad101.add ((x3_1).toNat * 4)).off + 3, none⟩ = some (.int .i64 ((rd_T59 l0 x3_1).f2.f1))) (ds := []) acc2_0 (by kernel_rfl) rfl rfl ⟨((HB.out.cell (World.block_lt_of_cell? w _ hw101_0)).trans hw101_0), ((HB.out.cell (World.block_lt_of_cell? w _ hw101_1)).trans hw101_1), ((HB.out.cell (World.block_lt_of_cell? w _ hw101_2)).trans hw101_2), ((HB.out.cell (World.block_lt_of_cell? w _ hw101_3)).trans hw101_3), ((HB.out.cell (World.block_lt_of_cell? w _ hw103_0)).trans hw103_0), ((HB.out.cell (World.block_lt_of_cell? w _ hw103_1)).trans hw103_1), ((HB.out.cell (World.block_lt_of_cell? w _ hw103_2)).trans hw103_2), ((HB.out.cell (World.block_lt_of_cell? w _ hw103_3)).trans hw103_3), ((HB.out.cell (World.block_lt_of_cell? w _ hw105_0)).trans hw105_0), ((HB.out.cell (World.block_lt_of_cell? w _ hw105_1)).trans hw105_1), ((HB.out.cell (World.block_lt_of_cell? w _ hw105_2)).trans hw105_2), ((HB.out.cell (World.block_lt_of_cell? w _ hw105_3)).trans hw105_3), ((HB.out.cell (World.block_lt_of_cell? w _ hw107_0)).trans hw107_0), ((HB.out.cell (World.block_lt_of_cell? w _ hw107_1)).trans hw107_1), ((HB.out.cell (World.block_lt_of_cell? w _ hw107_2)).trans hw107_2), ((HB.out.cell (World.block_lt_of_cell? w _ hw107_3)).trans hw107_3), ((HB.out.cell (World.block_lt_of_cell? w _ hw108_0)).trans hw108_0), ((HB.out.cell (World.block_lt_of_cell? w _ hw108_1)).trans hw108_1), ((HB.out.cell (World.block_lt_of_cell? w _ hw108_2)).trans hw108_2), ((HB.out.cell (World.block_lt_of_cell? w _ hw108_3)).trans hw108_3)⟩ (fun hHeld => ?_); refine with_tabW accountingref25_Codes.tab6 accountingref25_Codes.bits6 (fun HT_ HW_ => ?_); generalize wr.drew = w16 at HB hx101_0 hx101_1 hx101_2 hx101_3 hx103_0 hx103_1 hx103_2 hx103_3 hx105_0 hx105_1 hx105_2 hx105_3 hx107_0 hx107_1 hx107_2 hx107_3 hx108_0 hx108_1 hx108_2 hx108_3 hHeld ⊢; refine pure_ (i := 0) (N := some 13) (v := ?_) (a' := ?_) acc2_1 rfl rfl (any_of HT_.out (by kernel_rfl)) (fun _ _ _ h => h) (Or.inl ⟨by rfl, ?_⟩) ?_ ?_; rotate_left
              ·intro w'; go_simp; (with_reducible rfl)
              rotate_left
              ·exact ccc2_0
              refine pure_ (i := 1) (N := some 14) (v := ?_) (a' := ?_) acc2_2 rfl rfl (any_of HT_.out (by kernel_rfl)) (fun _ _ _ h => h) (Or.inl ⟨by rfl, ?_⟩) ?_ ?_; rotate_left
              ·intro w'; go_simp; (with_reducible rfl)
              rotate_left
              ·exact ccc2_0
              refine pure_ (i := 2) (N := some 15) (v := ?_) (a' := ?_) acc2_3 rfl rfl (any_of HT_.out (by kernel_rfl)) (fun _ _ _ h => h) (Or.inl ⟨by rfl, ?_⟩) ?_ ?_; rotate_left
              ·intro w'; go_simp; (with_reducible rfl)
              rotate_left
              ·exact ccc2_0
              refine pure_ (i := 3) (N := some 16) (v := ?_) (a' := ?_) acc2_4 rfl rfl (any_of HT_.out (by kernel_rfl)) (fun _ _ _ h => h) (Or.inl ⟨by rfl, ?_⟩) ?_ ?_; rotate_left
              ·intro w'; go_simp; (with_reducible rfl)
              rotate_left
              ·exact ccc2_0
              refine take_ (i := 4) (N := some 17) (v := ?_) (a' := ?_) acc2_5 rfl rfl (take_ofW HT_.out HW_.out (by kernel_rfl)) (fun _ _ _ h => h) (Or.inl ⟨by rfl, ?_⟩) hHeld ?_ ?_; rotate_left
              ·rintro w' ⟨s0, s1, s2, s3, s4, s5, s6, s7, s8, s9, s10, s11, s12, s13, s14, s15, s16, s17, s18, s19⟩; go_simp; (with_reducible rfl)
              rotate_left
              ·exact ccc2_0
              refine one_ (i := 5) (N := some 18) acc2_6 rfl rfl (one_of HT_.out (by kernel_rfl)) (by decide) (fun K hK => ?_); refine goes_ Try.func29 (by kernel_rfl) rfl #[.string ((rd_T59 l0 x3_1).f0)] (by rfl) rfl rfl prr1_2 ?_; (with_reducible refine (accountingref06_Code.calls k1 ((rd_T59 l0 x3_1).f0) true _ A5.out).mono ?_); rintro e w' ⟨rfl, ⟨nd, rfl⟩⟩; refine ⟨_, rfl, ?_⟩; refine hK.out _ _ ⟨((HB.out.cell (World.block_lt_of_cell? w _ hw101_0)).trans hw101_0), ((HB.out.cell (World.block_lt_of_cell? w _ hw101_1)).trans hw101_1), ((HB.out.cell (World.block_lt_of_cell? w _ hw101_2)).trans hw101_2), ((HB.out.cell (World.block_lt_of_cell? w _ hw101_3)).trans hw101_3), ((HB.out.cell (World.block_lt_of_cell? w _ hw103_0)).trans hw103_0), ((HB.out.cell (World.block_lt_of_cell? w _ hw103_1)).trans hw103_1), ((HB.out.cell (World.block_lt_of_cell? w _ hw103_2)).trans hw103_2), ((HB.out.cell (World.block_lt_of_cell? w _ hw103_3)).trans hw103_3), ((HB.out.cell (World.block_lt_of_cell? w _ hw105_0)).trans hw105_0), ((HB.out.cell (World.block_lt_of_cell? w _ hw105_1)).trans hw105_1), ((HB.out.cell (World.block_lt_of_cell? w _ hw105_2)).trans hw105_2), ((HB.out.cell (World.block_lt_of_cell? w _ hw105_3)).trans hw105_3), ((HB.out.cell (World.block_lt_of_cell? w _ hw107_0)).trans hw107_0), ((HB.out.cell (World.block_lt_of_cell? w _ hw107_1)).trans hw107_1), ((HB.out.cell (World.block_lt_of_cell? w _ hw107_2)).trans hw107_2), ((HB.out.cell (World.block_lt_of_cell? w _ hw107_3)).trans hw107_3), ((HB.out.cell (World.block_lt_of_cell? w _ hw108_0)).trans hw108_0), ((HB.out.cell (World.block_lt_of_cell? w _ hw108_1)).trans hw108_1), ((HB.out.cell (World.block_lt_of_cell? w _ hw108_2)).trans hw108_2), ((HB.out.cell (World.block_lt_of_cell? w _ hw108_3)).trans hw108_3)⟩ (fun hHeld => ?_); clear hK K; refine norm_ (a' := ?_) ?_ ?_; rotate_left
              ·show Act.put _ (some 18) _ = _; simp only [Act.put, List.setIfInBounds_toArray, List.set_cons_zero, List.set_cons_succ, i64_w, i32_w]
               rfl
              refine pure_ (i := 6) (N := some 19) (v := ?_) (a' := ?_) acc2_7 rfl rfl (any_of HT_.out (by kernel_rfl)) (fun _ _ _ h => h) (Or.inl ⟨by rfl, ?_⟩) ?_ ?_; rotate_left
              ·intro w'; go_simp; (with_reducible rfl)
              rotate_left
              ·exact ccc2_0
              refine pure_ (i := 7) (N := some 20) (v := ?_) (a' := ?_) acc2_8 rfl rfl (any_of HT_.out (by kernel_rfl)) (fun _ _ _ h => h) (Or.inl ⟨by rfl, ?_⟩) ?_ ?_; rotate_left
              ·intro w'; go_simp; (with_reducible rfl)
              rotate_left
              ·exact ccc2_0
              refine pure_ (i := 8) (N := some 21) (v := ?_) (a' := ?_) acc2_9 rfl rfl (any_of HT_.out (by kernel_rfl)) (fun _ _ _ h => h) (Or.inl ⟨by rfl, ?_⟩) ?_ ?_; rotate_left
              ·intro w'; go_simp; (with_reducible rfl)
              rotate_left
              ·exact ccc2_0
              refine pure_ (i := 9) (N := some 22) (v := ?_) (a' := ?_) acc2_10 rfl rfl (any_of HT_.out (by kernel_rfl)) (fun _ _ _ h => h) (Or.inl ⟨by rfl, ?_⟩) ?_ ?_; rotate_left
              ·intro w'; go_simp; (with_reducible rfl)
              rotate_left
              ·exact ccc2_0
              refine pure_ (i := 10) (N := some 23) (v := ?_) (a' := ?_) acc2_11 rfl rfl (any_of HT_.out (by kernel_rfl)) (fun _ _ _ h => h) (Or.inl ⟨by rfl, ?_⟩) ?_ ?_; rotate_left
              ·intro w'; go_simp; (with_reducible rfl)
              rotate_left
              ·exact ccc2_0
              refine pure_ (i := 11) (N := some 24) (v := ?_) (a' := ?_) acc2_12 rfl rfl (any_of HT_.out (by kernel_rfl)) (fun _ _ _ h => h) (Or.inl ⟨by rfl, ?_⟩) ?_ ?_; rotate_left
              ·intro w'; go_simp; (with_reducible rfl)
              rotate_left
              ·exact ccc2_0
              refine take_ (i := 12) (N := some 25) (v := ?_) (a' := ?_) acc2_13 rfl rfl (take_ofW HT_.out HW_.out (by kernel_rfl)) (fun _ _ _ h => h) (Or.inl ⟨by rfl, ?_⟩) hHeld ?_ ?_; rotate_left
              ·rintro w' ⟨s0, s1, s2, s3, s4, s5, s6, s7, s8, s9, s10, s11, s12, s13, s14, s15, s16, s17, s18, s19⟩; go_simp; (with_reducible rfl)
              rotate_left
              ·exact ccc2_0
              refine one_ (i := 13) (N := some 26) acc2_14 rfl rfl (one_of HT_.out (by kernel_rfl)) (by decide) (fun K hK => ?_); refine goes_ Try.func29 (by kernel_rfl) rfl #[.string ((rd_T59 l0 x3_1).f1)] (by rfl) rfl rfl prr1_2 ?_; (with_reducible refine (accountingref06_Code.calls k1 ((rd_T59 l0 x3_1).f1) true _ A7.out).mono ?_); rintro e w' ⟨rfl, ⟨nd, rfl⟩⟩; refine ⟨_, rfl, ?_⟩; refine hK.out _ _ ⟨((HB.out.cell (World.block_lt_of_cell? w _ hw101_0)).trans hw101_0), ((HB.out.cell (World.block_lt_of_cell? w _ hw101_1)).trans hw101_1), ((HB.out.cell (World.block_lt_of_cell? w _ hw101_2)).trans hw101_2), ((HB.out.cell (World.block_lt_of_cell? w _ hw101_3)).trans hw101_3), ((HB.out.cell (World.block_lt_of_cell? w _ hw103_0)).trans hw103_0), ((HB.out.cell (World.block_lt_of_cell? w _ hw103_1)).trans hw103_1), ((HB.out.cell (World.block_lt_of_cell? w _ hw103_2)).trans hw103_2), ((HB.out.cell (World.block_lt_of_cell? w _ hw103_3)).trans hw103_3), ((HB.out.cell (World.block_lt_of_cell? w _ hw105_0)).trans hw105_0), ((HB.out.cell (World.block_lt_of_cell? w _ hw105_1)).trans hw105_1), ((HB.out.cell (World.block_lt_of_cell? w _ hw105_2)).trans hw105_2), ((HB.out.cell (World.block_lt_of_cell? w _ hw105_3)).trans hw105_3), ((HB.out.cell (World.block_lt_of_cell? w _ hw107_0)).trans hw107_0), ((HB.out.cell (World.block_lt_of_cell? w _ hw107_1)).trans hw107_1), ((HB.out.cell (World.block_lt_of_cell? w _ hw107_2)).trans hw107_2), ((HB.out.cell (World.block_lt_of_cell? w _ hw107_3)).trans hw107_3), ((HB.out.cell (World.block_lt_of_cell? w _ hw108_0)).trans hw108_0), ((HB.out.cell (World.block_lt_of_cell? w _ hw108_1)).trans hw108_1), ((HB.out.cell (World.block_lt_of_cell? w _ hw108_2)).trans hw108_2), ((HB.out.cell (World.block_lt_of_cell? w _ hw108_3)).trans hw108_3)⟩ (fun hHeld => ?_); clear hK K; refine norm_ (a' := ?_) ?_ ?_; rotate_left
              ·show Act.put _ (some 26) _ = _; simp only [Act.put, List.setIfInBounds_toArray, List.set_cons_zero, List.set_cons_succ, i64_w, i32_w]
               rfl
              refine pure_ (i := 14) (N := some 27) (v := ?_) (a' := ?_) acc2_15 rfl rfl (any_of HT_.out (by kernel_rfl)) (fun _ _ _ h => h) (Or.inl ⟨by rfl, ?_⟩) ?_ ?_; rotate_left
              ·intro w'; go_simp; (with_reducible rfl)
              rotate_left
              ·exact ccc2_0
              refine pure_ (i := 15) (N := some 28) (v := ?_) (a' := ?_) acc2_16 rfl rfl (any_of HT_.out (by kernel_rfl)) (fun _ _ _ h => h) (Or.inl ⟨by rfl, ?_⟩) ?_ ?_; rotate_left
              ·intro w'; go_simp; (with_reducible rfl)
              rotate_left
              ·exact ccc2_0
              refine pure_ (i := 16) (N := some 29) (v := ?_) (a' := ?_) acc2_17 rfl rfl (any_of HT_.out (by kernel_rfl)) (fun _ _ _ h => h) (Or.inl ⟨by rfl, ?_⟩) ?_ ?_; rotate_left
              ·intro w'; go_simp; (with_reducible rfl)
              rotate_left
              ·exact ccc2_0
              refine pure_ (i := 17) (N := some 30) (v := ?_) (a' := ?_) acc2_18 rfl rfl (any_of HT_.out (by kernel_rfl)) (fun _ _ _ h => h) (Or.inl ⟨by rfl, ?_⟩) ?_ ?_; rotate_left
              ·intro w'; go_simp; (with_reducible rfl)
              rotate_left
              ·exact ccc2_0
              refine pure_ (i := 18) (N := some 31) (v := ?_) (a' := ?_) acc2_19 rfl rfl (any_of HT_.out (by kernel_rfl)) (fun _ _ _ h => h) (Or.inl ⟨by rfl, ?_⟩) ?_ ?_; rotate_left
              ·intro w'; go_simp; (with_reducible rfl)
              rotate_left
              ·exact ccc2_0
              refine pure_ (i := 19) (N := some 32) (v := ?_) (a' := ?_) acc2_20 rfl rfl (any_of HT_.out (by kernel_rfl)) (fun _ _ _ h => h) (Or.inl ⟨by rfl, ?_⟩) ?_ ?_; rotate_left
              ·intro w'; go_simp; (with_reducible rfl)
              rotate_left
              ·exact ccc2_0
              refine pure_ (i := 20) (N := some 33) (v := ?_) (a' := ?_) acc2_21 rfl rfl (any_of HT_.out (by kernel_rfl)) (fun _ _ _ h => h) (Or.inl ⟨by rfl, ?_⟩) ?_ ?_; rotate_left
              ·intro w'; go_simp; (with_reducible rfl)
              rotate_left
              ·exact ccc2_0
              refine take_ (i := 21) (N := some 34) (v := ?_) (a' := ?_) acc2_22 rfl rfl (take_ofW HT_.out HW_.out (by kernel_rfl)) (fun _ _ _ h => h) (Or.inl ⟨by rfl, ?_⟩) hHeld ?_ ?_; rotate_left
              ·rintro w' ⟨s0, s1, s2, s3, s4, s5, s6, s7, s8, s9, s10, s11, s12, s13, s14, s15, s16, s17, s18, s19⟩; go_simp; (with_reducible rfl)
              rotate_left
              ·exact ccc2_0
              refine one_ (i := 22) (N := some 35) acc2_23 rfl rfl (one_of HT_.out (by kernel_rfl)) (by decide) (fun K hK => ?_); refine goes_ Try.func30 (by kernel_rfl) rfl #[.agg #[.int .i64 ((rd_T59 l0 x3_1).f2.f0), .int .i64 ((rd_T59 l0 x3_1).f2.f1)]] (by rfl) rfl rfl prr1_2 ?_; (with_reducible refine (accountingref25_Rate.calls k1 ((rd_T59 l0 x3_1).f2.f0) ((rd_T59 l0 x3_1).f2.f1) true _ A9.out).mono ?_); rintro e w17 ⟨rfl, hb⟩; refine ⟨_, rfl, ?_⟩; have n0_ := Aside0.mk (below_step prr1_4 hb); clear HB; have HB := n0_; clear n0_; (try clear hb); (try clear hb2); (try clear hk); (try clear hi); refine hK.out _ _ ⟨((HB.out.cell (World.block_lt_of_cell? w _ hw101_0)).trans hw101_0), ((HB.out.cell (World.block_lt_of_cell? w _ hw101_1)).trans hw101_1), ((HB.out.cell (World.block_lt_of_cell? w _ hw101_2)).trans hw101_2), ((HB.out.cell (World.block_lt_of_cell? w _ hw101_3)).trans hw101_3), ((HB.out.cell (World.block_lt_of_cell? w _ hw103_0)).trans hw103_0), ((HB.out.cell (World.block_lt_of_cell? w _ hw103_1)).trans hw103_1), ((HB.out.cell (World.block_lt_of_cell? w _ hw103_2)).trans hw103_2), ((HB.out.cell (World.block_lt_of_cell? w _ hw103_3)).trans hw103_3), ((HB.out.cell (World.block_lt_of_cell? w _ hw105_0)).trans hw105_0), ((HB.out.cell (World.block_lt_of_cell? w _ hw105_1)).trans hw105_1), ((HB.out.cell (World.block_lt_of_cell? w _ hw105_2)).trans hw105_2), ((HB.out.cell (World.block_lt_of_cell? w _ hw105_3)).trans hw105_3), ((HB.out.cell (World.block_lt_of_cell? w _ hw107_0)).trans hw107_0), ((HB.out.cell (World.block_lt_of_cell? w _ hw107_1)).trans hw107_1), ((HB.out.cell (World.block_lt_of_cell? w _ hw107_2)).trans hw107_2), ((HB.out.cell (World.block_lt_of_cell? w _ hw107_3)).trans hw107_3), ((HB.out.cell (World.block_lt_of_cell? w _ hw108_0)).trans hw108_0), ((HB.out.cell (World.block_lt_of_cell? w _ hw108_1)).trans hw108_1), ((HB.out.cell (World.block_lt_of_cell? w _ hw108_2)).trans hw108_2), ((HB.out.cell (World.block_lt_of_cell? w _ hw108_3)).trans hw108_3)⟩ (fun hHeld => ?_); clear hK K; refine norm_ (a' := ?_) ?_ ?_; rotate_left
              ·show Act.put _ (some 35) _ = _; simp only [Act.put, List.setIfInBounds_toArray, List.set_cons_zero, List.set_cons_succ, i64_w, i32_w]
               rfl
              refine pure_ (i := 23) (N := some 36) (v := ?_) (a' := ?_) acc2_24 rfl rfl (any_of HT_.out (by kernel_rfl)) (fun _ _ _ h => h) (Or.inl ⟨by rfl, ?_⟩) ?_ ?_; rotate_left
              ·intro w'; go_simp; (with_reducible rfl)
              rotate_left
              ·exact ccc2_0
              refine pure_ (i := 24) (N := some 37) (v := ?_) (a' := ?_) acc2_25 rfl rfl (any_of HT_.out (by kernel_rfl)) (fun _ _ _ h => h) (Or.inl ⟨by rfl, ?_⟩) ?_ ?_; rotate_left
              ·intro w'; go_simp; (with_reducible rfl)
              rotate_left
              ·exact ccc2_0
              refine pure_ (i := 25) (N := some 38) (v := ?_) (a' := ?_) acc2_26 rfl rfl (any_of HT_.out (by kernel_rfl)) (fun _ _ _ h => h) (Or.inl ⟨by rfl, ?_⟩) ?_ ?_; rotate_left
              ·intro w'; go_simp; (with_reducible rfl)
              rotate_left
              ·exact ccc2_0
              refine pure_ (i := 26) (N := some 39) (v := ?_) (a' := ?_) acc2_27 rfl rfl (any_of HT_.out (by kernel_rfl)) (fun _ _ _ h => h) (Or.inl ⟨by rfl, ?_⟩) ?_ ?_; rotate_left
              ·intro w'; go_simp; (with_reducible rfl)
              rotate_left
              ·exact ccc2_0
              refine pure_ (i := 27) (N := some 40) (v := ?_) (a' := ?_) acc2_28 rfl rfl (any_of HT_.out (by kernel_rfl)) (fun _ _ _ h => h) (Or.inl ⟨by rfl, ?_⟩) ?_ ?_; rotate_left
              ·intro w'; go_simp; (with_reducible rfl)
              rotate_left
              ·exact ccc2_0
              refine pure_ (i := 28) (N := some 41) (v := ?_) (a' := ?_) acc2_29 rfl rfl (any_of HT_.out (by kernel_rfl)) (fun _ _ _ h => h) (Or.inl ⟨by rfl, ?_⟩) ?_ ?_; rotate_left
              ·intro w'; go_simp; (with_reducible rfl)
              rotate_left
              ·exact ccc2_0
              refine pure_ (i := 29) (N := some 42) (v := ?_) (a' := ?_) acc2_30 rfl rfl (any_of HT_.out (by kernel_rfl)) (fun _ _ _ h => h) (Or.inl ⟨by rfl, ?_⟩) ?_ ?_; rotate_left
              ·intro w'; go_simp; (with_reducible rfl)
              rotate_left
              ·exact ccc2_0
              refine pure_ (i := 30) (N := some 43) (v := ?_) (a' := ?_) acc2_31 rfl rfl (any_of HT_.out (by kernel_rfl)) (fun _ _ _ h => h) (Or.inl ⟨by rfl, ?_⟩) ?_ ?_; rotate_left
              ·intro w'; go_simp; (with_reducible rfl)
              rotate_left
              ·exact ccc2_0
              refine pure_ (i := 31) (N := some 44) (v := ?_) (a' := ?_) acc2_32 rfl rfl (any_of HT_.out (by kernel_rfl)) (fun _ _ _ h => h) (Or.inl ⟨by rfl, ?_⟩) ?_ ?_; rotate_left
              ·intro w'; go_simp; (with_reducible rfl)
              rotate_left
              ·exact ccc2_0
              refine pure_ (i := 32) (N := some 45) (v := ?_) (a' := ?_) acc2_33 rfl rfl (any_of HT_.out (by kernel_rfl)) (fun _ _ _ h => h) (Or.inl ⟨by rfl, ?_⟩) ?_ ?_; rotate_left
              ·intro w'; go_simp; (with_reducible rfl)
              rotate_left
              ·exact ccc2_0
              refine pure_ (i := 33) (N := some 46) (v := ?_) (a' := ?_) acc2_34 rfl rfl (any_of HT_.out (by kernel_rfl)) (fun _ _ _ h => h) (Or.inl ⟨by rfl, ?_⟩) ?_ ?_; rotate_left
              ·intro w'; go_simp; (with_reducible rfl)
              rotate_left
              ·exact ccc2_0
              refine pure_ (i := 35) (N := some 48) (v := ?_) (a' := ?_) acc2_35 rfl rfl (any_of HT_.out (by kernel_rfl)) (fun _ _ _ h => h) (Or.inl ⟨by rfl, ?_⟩) ?_ ?_; rotate_left
              ·intro w'; go_simp; (with_reducible rfl)
              rotate_left
              ·exact ccc2_0
              refine pure_ (i := 36) (N := some 49) (v := ?_) (a' := ?_) acc2_37 rfl rfl (any_of HT_.out (by kernel_rfl)) (fun _ _ _ h => h) (Or.inl ⟨by rfl, ?_⟩) ?_ ?_; rotate_left
              ·intro w'; go_simp; (with_reducible rfl)
              rotate_left
              ·exact ccc2_0
              refine pure_ (i := 37) (N := some 50) (v := ?_) (a' := ?_) acc2_39 rfl rfl (any_of HT_.out (by kernel_rfl)) (fun _ _ _ h => h) (Or.inl ⟨by rfl, ?_⟩) ?_ ?_; rotate_left
              ·intro w'; go_simp; (with_reducible rfl)
              rotate_left
              ·exact ccc2_0
              refine pure_ (i := 38) (N := some 51) (v := ?_) (a' := ?_) acc2_41 rfl rfl (any_of HT_.out (by kernel_rfl)) (fun _ _ _ h => h) (Or.inl ⟨by rfl, ?_⟩) ?_ ?_; rotate_left
              ·intro w'; go_simp; (with_reducible rfl)
              rotate_left
              ·exact ccc2_0
              refine take_ (i := 34) (N := some 47) (v := ?_) (a' := ?_) acc2_43 rfl rfl (take_ofW HT_.out HW_.out (by kernel_rfl)) (fun _ _ _ h => h) (Or.inl ⟨by rfl, ?_⟩) hHeld ?_ ?_; rotate_left
              ·rintro w' ⟨s0, s1, s2, s3, s4, s5, s6, s7, s8, s9, s10, s11, s12, s13, s14, s15, s16, s17, s18, s19⟩; go_simp; (with_reducible rfl)
              rotate_left
              ·exact ccc2_0
              refine take_ (i := 39) (N := some 52) (v := ?_) (a' := ?_) acc2_44 rfl rfl (take_ofW HT_.out HW_.out (by kernel_rfl)) (fun _ _ _ h => h) (Or.inl ⟨by rfl, ?_⟩) hHeld ?_ ?_; rotate_left
              ·rintro w' ⟨s0, s1, s2, s3, s4, s5, s6, s7, s8, s9, s10, s11, s12, s13, s14, s15, s16, s17, s18, s19⟩; go_simp; (with_reducible rfl)
              rotate_left
              ·exact ccc2_0
              refine pure_ (i := 40) (N := some 53) (v := ?_) (a' := ?_) acc2_45 rfl rfl (any_of HT_.out (by kernel_rfl)) (fun _ _ _ h => h) (Or.inl ⟨by rfl, ?_⟩) ?_ ?_; rotate_left
              ·intro w'; go_simp; (with_reducible rfl)
              rotate_left
              ·exact ccc2_0
              refine pure_ (i := 41) (N := some 54) (v := ?_) (a' := ?_) acc2_46 rfl rfl (any_of HT_.out (by kernel_rfl)) (fun _ _ _ h => h) (Or.inl ⟨by rfl, ?_⟩) ?_ ?_; rotate_left
              ·intro w'; go_simp; (with_reducible rfl)
              rotate_left
              ·exact ccc2_0
              refine pure_ (i := 42) (N := some 55) (v := ?_) (a' := ?_) acc2_47 rfl rfl (any_of HT_.out (by kernel_rfl)) (fun _ _ _ h => h) (Or.inl ⟨by rfl, ?_⟩) ?_ ?_; rotate_left
              ·intro w'; go_simp; (with_reducible rfl)
              rotate_left
              ·exact ccc2_0
              refine done_ (done_of HT_.out (by kernel_rfl)) ?_; (try go_wp2)
              go_roundg k1
              case measure => have := HK1.out; omega
              case rel => exact ⟨(wrap64 (x3_1 + 1)), prr1_0, H', ⟨by have := HK1.out; omega⟩, ⟨prr1_4⟩⟩
             ·rw [if_neg c15] at H; have c15b0 : (Op.bytesLess (((rd_T59 l0 (ji12)).f0).toList) (((rd_T59 l0 x3_1).f0).toList)) = false := by simpa using c15
              clear c15; obtain rfl := Option.some.inj H; (try go_wp2); have n0_ := Aside0.mk (below_drew1 HB.out); clear HB; have HB := n0_; clear n0_; have p101 : 0 ≤ (x3_1 : Int) := of_decide_eq_true pcc1_0; have q101 : x3_1 < (l0.length : Int) := of_decide_eq_true pcc1_0; obtain ⟨ad101, e101, hx101_0, hx101_1, hx101_2, hx101_3⟩ := at_T59 HR0.out x3_1 p101 q101; have hw101_3 := hx101_3; have hw101_2 := hx101_2; have hw101_1 := hx101_1; have hw101_0 := hx101_0
              cases e101
              replace hx101_0 := (HB.out.cell (World.block_lt_of_cell? w _ hx101_0)).trans hx101_0; replace hx101_1 := (HB.out.cell (World.block_lt_of_cell? w _ hx101_1)).trans hx101_1; replace hx101_2 := (HB.out.cell (World.block_lt_of_cell? w _ hx101_2)).trans hx101_2; replace hx101_3 := (HB.out.cell (World.block_lt_of_cell? w _ hx101_3)).trans hx101_3; replace p101 := eq_true p101; replace q101 := eq_true q101; have p103 : 0 ≤ (x3_1 : Int) := of_decide_eq_true pcc1_0; have q103 : x3_1 < (l0.length : Int) := of_decide_eq_true pcc1_0; obtain ⟨ad103, e103, hx103_0, hx103_1, hx103_2, hx103_3⟩ := at_T59 HR0.out x3_1 p103 q103; have hw103_3 := hx103_3; have hw103_2 := hx103_2; have hw103_1 := hx103_1; have hw103_0 := hx103_0; obtain rfl : ad101 = ad103 := (by injection e103); replace hx103_0 := (HB.out.cell (World.block_lt_of_cell? w _ hx103_0)).trans hx103_0; replace hx103_1 := (HB.out.cell (World.block_lt_of_cell? w _ hx103_1)).trans hx103_1; replace hx103_2 := (HB.out.cell (World.block_lt_of_cell? w _ hx103_2)).trans hx103_2; replace hx103_3 := (HB.out.cell (World.block_lt_of_cell? w _ hx103_3)).trans hx103_3; replace p103 := eq_true p103; replace q103 := eq_true q103; have p105 : 0 ≤ (x3_1 : Int) := of_decide_eq_true pcc1_0; have q105 : x3_1 < (l0.length : Int) := of_decide_eq_true pcc1_0; obtain ⟨ad105, e105, hx105_0, hx105_1, hx105_2, hx105_3⟩ := at_T59 HR0.out x3_1 p105 q105; have hw105_3 := hx105_3; have hw105_2 := hx105_2; have hw105_1 := hx105_1; have hw105_0 := hx105_0; obtain rfl : ad101 = ad105 := (by injection e105); replace hx105_0 := (HB.out.cell (World.block_lt_of_cell? w _ hx105_0)).trans hx105_0; replace hx105_1 := (HB.out.cell (World.block_lt_of_cell? w _ hx105_1)).trans hx105_1; replace hx105_2 := (HB.out.cell (World.block_lt_of_cell? w _ hx105_2)).trans hx105_2; replace hx105_3 := (HB.out.cell (World.block_lt_of_cell? w _ hx105_3)).trans hx105_3; replace p105 := eq_true p105; replace q105 := eq_true q105; have p107 : 0 ≤ ((ji12) : Int) := of_decide_eq_true pcc1_0; have q107 : (ji12) < (l0.length : Int) := of_decide_eq_true pcc1_0; obtain ⟨ad107, e107, hx107_0, hx107_1, hx107_2, hx107_3⟩ := at_T59 HR0.out (ji12) p107 q107; have hw107_3 := hx107_3; have hw107_2 := hx107_2; have hw107_1 := hx107_1; have hw107_0 := hx107_0; obtain rfl : ad101 = ad107 := (by injection e107); replace hx107_0 := (HB.out.cell (World.block_lt_of_cell? w _ hx107_0)).trans hx107_0; replace hx107_1 := (HB.out.cell (World.block_lt_of_cell? w _ hx107_1)).trans hx107_1; replace hx107_2 := (HB.out.cell (World.block_lt_of_cell? w _ hx107_2)).trans hx107_2; replace hx107_3 := (HB.out.cell (World.block_lt_of_cell? w _ hx107_3)).trans hx107_3; replace p107 := eq_true p107; replace q107 := eq_true q107; have p108 : 0 ≤ (x3_1 : Int) := of_decide_eq_true pcc1_0; have q108 : x3_1 < (l0.length : Int) := of_decide_eq_true pcc1_0; obtain ⟨ad108, e108, hx108_0, hx108_1, hx108_2, hx108_3⟩ := at_T59 HR0.out x3_1 p108 q108; have hw108_3 := hx108_3; have hw108_2 := hx108_2; have hw108_1 := hx108_1; have hw108_0 := hx108_0; obtain rfl : ad101 = ad108 := (by injection e108); replace hx108_0 := (HB.out.cell (World.block_lt_of_cell? w _ hx108_0)).trans hx108_0; replace hx108_1 := (HB.out.cell (World.block_lt_of_cell? w _ hx108_1)).trans hx108_1; replace hx108_2 := (HB.out.cell (World.block_lt_of_cell? w _ hx108_2)).trans hx108_2; replace hx108_3 := (HB.out.cell (World.block_lt_of_cell? w _ hx108_3)).trans hx108_3; replace p108 := eq_true p108; replace q108 := eq_true q108; refine start_ (n := 43) (S := fun w' => w'.cell? (ad101.add ((x3_1).toNat * 4)) = some (.string ((rd_T59 l0 x3_1).f0)) ∧ w'.cell? ⟨(ad101.add ((x3_1).toNat * 4)).block, (ad101.add ((x3_1).toNat * 4)).off + 1, none⟩ = some (.string ((rd_T59 l0 x3_1).f1)) ∧ w'.cell? ⟨(ad101.add ((x3_1).toNat * 4)).block, (ad101.add ((x3_1).toNat * 4)).off + 2, none⟩ = some (.int .i64 ((rd_T59 l0 x3_1).f2.f0)) ∧ w'.cell? ⟨(ad101.add ((x3_1).toNat * 4)).block, (ad101.add ((x3_1).toNat * 4)).off + 3, none⟩ = some (.int .i64 ((rd_T59 l0 x3_1).f2.f1)) ∧ w'.cell? (ad101.add ((x3_1).toNat * 4)) = some (.string ((rd_T59 l0 x3_1).f0)) ∧ w'.cell? ⟨(ad101.add ((x3_1).toNat * 4)).block, (ad101.add ((x3_1).toNat * 4)).off + 1, none⟩ = some (.string ((rd_T59 l0 x3_1).f1)) ∧ w'.cell? ⟨(ad101.add ((x3_1).toNat * 4)).block, (ad101.add ((x3_1).toNat * 4)).off + 2, none⟩ = some (.int .i64 ((rd_T59 l0 x3_1).f2.f0)) ∧ w'.cell? ⟨(ad101.add ((x3_1).toNat * 4)).block, (ad101.add ((x3_1).toNat * 4)).off + 3, none⟩ = some (.int .i64 ((rd_T59 l0 x3_1).f2.f1)) ∧ w'.cell? (ad101.add ((x3_1).toNat * 4)) = some (.string ((rd_T59 l0 x3_1).f0)) ∧ w'.cell? ⟨(ad101.add ((x3_1).toNat * 4)).block, (ad101.add ((x3_1).toNat * 4)).off + 1, none⟩ = some (.string ((rd_T59 l0 x3_1).f1)) ∧ w'.cell? ⟨(ad101.add ((x3_1).toNat * 4)).block, (ad101.add ((x3_1).toNat * 4)).off + 2, none⟩ = some (.int .i64 ((rd_T59 l0 x3_1).f2.f0)) ∧ w'.cell? ⟨(ad101.add ((x3_1).toNat * 4)).block, (ad101.add ((x3_1).toNat * 4)).off + 3, none⟩ = some (.int .i64 ((rd_T59 l0 x3_1).f2.f1)) ∧ w'.cell? (ad101.add (((ji12)).toNat * 4)) = some (.string ((rd_T59 l0 (ji12)).f0)) ∧ w'.cell? ⟨(ad101.add (((ji12)).toNat * 4)).block, (ad101.add (((ji12)).toNat * 4)).off + 1, none⟩ = some (.string ((rd_T59 l0 (ji12)).f1)) ∧ w'.cell? ⟨(ad101.add (((ji12)).toNat * 4)).block, (ad101.add (((ji12)).toNat * 4)).off + 2, none⟩ = some (.int .i64 ((rd_T59 l0 (ji12)).f2.f0)) ∧ w'.cell? ⟨(ad101.add (((ji12)).toNat * 4)).block, (ad101.add (((ji12)).toNat * 4)).off + 3, none⟩ = some (.int .i64 ((rd_T59 l0 (ji12)).f2.f1)) ∧ w'.cell? (ad101.add ((x3_1).toNat * 4)) = some (.string ((rd_T59 l0 x3_1).f0)) ∧ w'.cell? ⟨(ad101.add ((x3_1).toNat * 4)).block, (ad101.add ((x3_1).toNat * 4)).off + 1, none⟩ = some (.string ((rd_T59 l0 x3_1).f1)) ∧ w'.cell? ⟨(ad101.add ((x3_1).toNat * 4)).block, (ad101.add ((x3_1).toNat * 4)).off + 2, none⟩ = some (.int .i64 ((rd_T59 l0 x3_1).f2.f0)) ∧ w'.cell? ⟨(ad101.add ((x3_1).toNat * 4)).block, (ad101.add ((x3_1).toNat * 4)).off + 3, none⟩ = some (.int .i64 ((rd_T59 l0 x3_1).f2.f1))) (ds := []) acc2_0 (by kernel_rfl) rfl rfl ⟨((HB.out.cell (World.block_lt_of_cell? w _ hw101_0)).trans hw101_0), ((HB.out.cell (World.block_lt_of_cell? w _ hw101_1)).trans hw101_1), ((HB.out.cell (World.block_lt_of_cell? w _ hw101_2)).trans hw101_2), ((HB.out.cell (World.block_lt_of_cell? w _ hw101_3)).trans hw101_3), ((HB.out.cell (World.block_lt_of_cell? w _ hw103_0)).trans hw103_0), ((HB.out.cell (World.block_lt_of_cell? w _ hw103_1)).trans hw103_1), ((HB.out.cell (World.block_lt_of_cell? w _ hw103_2)).trans hw103_2), ((HB.out.cell (World.block_lt_of_cell? w _ hw103_3)).trans hw103_3), ((HB.out.cell (World.block_lt_of_cell? w _ hw105_0)).trans hw105_0), ((HB.out.cell (World.block_lt_of_cell? w _ hw105_1)).trans hw105_1), ((HB.out.cell (World.block_lt_of_cell? w _ hw105_2)).trans hw105_2), ((HB.out.cell (World.block_lt_of_cell? w _ hw105_3)).trans hw105_3), ((HB.out.cell (World.block_lt_of_cell? w _ hw107_0)).trans hw107_0), ((HB.out.cell (World.block_lt_of_cell? w _ hw107_1)).trans hw107_1), ((HB.out.cell (World.block_lt_of_cell? w _ hw107_2)).trans hw107_2), ((HB.out.cell (World.block_lt_of_cell? w _ hw107_3)).trans hw107_3), ((HB.out.cell (World.block_lt_of_cell? w _ hw108_0)).trans hw108_0), ((HB.out.cell (World.block_lt_of_cell? w _ hw108_1)).trans hw108_1), ((HB.out.cell (World.block_lt_of_cell? w _ hw108_2)).trans hw108_2), ((HB.out.cell (World.block_lt_of_cell? w _ hw108_3)).trans hw108_3)⟩ (fun hHeld => ?_); refine with_tabW accountingref25_Codes.tab6 accountingref25_Codes.bits6 (fun HT_ HW_ => ?_); generalize wr.drew = w18 at HB hx101_0 hx101_1 hx101_2 hx101_3 hx103_0 hx103_1 hx103_2 hx103_3 hx105_0 hx105_1 hx105_2 hx105_3 hx107_0 hx107_1 hx107_2 hx107_3 hx108_0 hx108_1 hx108_2 hx108_3 hHeld ⊢; refine pure_ (i := 0) (N := some 13) (v := ?_) (a' := ?_) acc2_1 rfl rfl (any_of HT_.out (by kernel_rfl)) (fun _ _ _ h => h) (Or.inl ⟨by rfl, ?_⟩) ?_ ?_; rotate_left
              ·intro w'; go_simp; (with_reducible rfl)
              rotate_left
              ·exact ccc2_0
              refine pure_ (i := 1) (N := some 14) (v := ?_) (a' := ?_) acc2_2 rfl rfl (any_of HT_.out (by kernel_rfl)) (fun _ _ _ h => h) (Or.inl ⟨by rfl, ?_⟩) ?_ ?_; rotate_left
              ·intro w'; go_simp; (with_reducible rfl)
              rotate_left
              ·exact ccc2_0
              refine pure_ (i := 2) (N := some 15) (v := ?_) (a' := ?_) acc2_3 rfl rfl (any_of HT_.out (by kernel_rfl)) (fun _ _ _ h => h) (Or.inl ⟨by rfl, ?_⟩) ?_ ?_; rotate_left
              ·intro w'; go_simp; (with_reducible rfl)
              rotate_left
              ·exact ccc2_0
              refine pure_ (i := 3) (N := some 16) (v := ?_) (a' := ?_) acc2_4 rfl rfl (any_of HT_.out (by kernel_rfl)) (fun _ _ _ h => h) (Or.inl ⟨by rfl, ?_⟩) ?_ ?_; rotate_left
              ·intro w'; go_simp; (with_reducible rfl)
              rotate_left
              ·exact ccc2_0
              refine take_ (i := 4) (N := some 17) (v := ?_) (a' := ?_) acc2_5 rfl rfl (take_ofW HT_.out HW_.out (by kernel_rfl)) (fun _ _ _ h => h) (Or.inl ⟨by rfl, ?_⟩) hHeld ?_ ?_; rotate_left
              ·rintro w' ⟨s0, s1, s2, s3, s4, s5, s6, s7, s8, s9, s10, s11, s12, s13, s14, s15, s16, s17, s18, s19⟩; go_simp; (with_reducible rfl)
              rotate_left
              ·exact ccc2_0
              refine one_ (i := 5) (N := some 18) acc2_6 rfl rfl (one_of HT_.out (by kernel_rfl)) (by decide) (fun K hK => ?_); refine goes_ Try.func29 (by kernel_rfl) rfl #[.string ((rd_T59 l0 x3_1).f0)] (by rfl) rfl rfl prr1_2 ?_; (with_reducible refine (accountingref06_Code.calls k1 ((rd_T59 l0 x3_1).f0) true _ A5.out).mono ?_); rintro e w' ⟨rfl, ⟨nd, rfl⟩⟩; refine ⟨_, rfl, ?_⟩; refine hK.out _ _ ⟨((HB.out.cell (World.block_lt_of_cell? w _ hw101_0)).trans hw101_0), ((HB.out.cell (World.block_lt_of_cell? w _ hw101_1)).trans hw101_1), ((HB.out.cell (World.block_lt_of_cell? w _ hw101_2)).trans hw101_2), ((HB.out.cell (World.block_lt_of_cell? w _ hw101_3)).trans hw101_3), ((HB.out.cell (World.block_lt_of_cell? w _ hw103_0)).trans hw103_0), ((HB.out.cell (World.block_lt_of_cell? w _ hw103_1)).trans hw103_1), ((HB.out.cell (World.block_lt_of_cell? w _ hw103_2)).trans hw103_2), ((HB.out.cell (World.block_lt_of_cell? w _ hw103_3)).trans hw103_3), ((HB.out.cell (World.block_lt_of_cell? w _ hw105_0)).trans hw105_0), ((HB.out.cell (World.block_lt_of_cell? w _ hw105_1)).trans hw105_1), ((HB.out.cell (World.block_lt_of_cell? w _ hw105_2)).trans hw105_2), ((HB.out.cell (World.block_lt_of_cell? w _ hw105_3)).trans hw105_3), ((HB.out.cell (World.block_lt_of_cell? w _ hw107_0)).trans hw107_0), ((HB.out.cell (World.block_lt_of_cell? w _ hw107_1)).trans hw107_1), ((HB.out.cell (World.block_lt_of_cell? w _ hw107_2)).trans hw107_2), ((HB.out.cell (World.block_lt_of_cell? w _ hw107_3)).trans hw107_3), ((HB.out.cell (World.block_lt_of_cell? w _ hw108_0)).trans hw108_0), ((HB.out.cell (World.block_lt_of_cell? w _ hw108_1)).trans hw108_1), ((HB.out.cell (World.block_lt_of_cell? w _ hw108_2)).trans hw108_2), ((HB.out.cell (World.block_lt_of_cell? w _ hw108_3)).trans hw108_3)⟩ (fun hHeld => ?_); clear hK K; refine norm_ (a' := ?_) ?_ ?_; rotate_left
              ·show Act.put _ (some 18) _ = _; simp only [Act.put, List.setIfInBounds_toArray, List.set_cons_zero, List.set_cons_succ, i64_w, i32_w]
               rfl
              refine pure_ (i := 6) (N := some 19) (v := ?_) (a' := ?_) acc2_7 rfl rfl (any_of HT_.out (by kernel_rfl)) (fun _ _ _ h => h) (Or.inl ⟨by rfl, ?_⟩) ?_ ?_; rotate_left
              ·intro w'; go_simp; (with_reducible rfl)
              rotate_left
              ·exact ccc2_0
              refine pure_ (i := 7) (N := some 20) (v := ?_) (a' := ?_) acc2_8 rfl rfl (any_of HT_.out (by kernel_rfl)) (fun _ _ _ h => h) (Or.inl ⟨by rfl, ?_⟩) ?_ ?_; rotate_left
              ·intro w'; go_simp; (with_reducible rfl)
              rotate_left
              ·exact ccc2_0
              refine pure_ (i := 8) (N := some 21) (v := ?_) (a' := ?_) acc2_9 rfl rfl (any_of HT_.out (by kernel_rfl)) (fun _ _ _ h => h) (Or.inl ⟨by rfl, ?_⟩) ?_ ?_; rotate_left
              ·intro w'; go_simp; (with_reducible rfl)
              rotate_left
              ·exact ccc2_0
              refine pure_ (i := 9) (N := some 22) (v := ?_) (a' := ?_) acc2_10 rfl rfl (any_of HT_.out (by kernel_rfl)) (fun _ _ _ h => h) (Or.inl ⟨by rfl, ?_⟩) ?_ ?_; rotate_left
              ·intro w'; go_simp; (with_reducible rfl)
              rotate_left
              ·exact ccc2_0
              refine pure_ (i := 10) (N := some 23) (v := ?_) (a' := ?_) acc2_11 rfl rfl (any_of HT_.out (by kernel_rfl)) (fun _ _ _ h => h) (Or.inl ⟨by rfl, ?_⟩) ?_ ?_; rotate_left
              ·intro w'; go_simp; (with_reducible rfl)
              rotate_left
              ·exact ccc2_0
              refine pure_ (i := 11) (N := some 24) (v := ?_) (a' := ?_) acc2_12 rfl rfl (any_of HT_.out (by kernel_rfl)) (fun _ _ _ h => h) (Or.inl ⟨by rfl, ?_⟩) ?_ ?_; rotate_left
              ·intro w'; go_simp; (with_reducible rfl)
              rotate_left
              ·exact ccc2_0
              refine take_ (i := 12) (N := some 25) (v := ?_) (a' := ?_) acc2_13 rfl rfl (take_ofW HT_.out HW_.out (by kernel_rfl)) (fun _ _ _ h => h) (Or.inl ⟨by rfl, ?_⟩) hHeld ?_ ?_; rotate_left
              ·rintro w' ⟨s0, s1, s2, s3, s4, s5, s6, s7, s8, s9, s10, s11, s12, s13, s14, s15, s16, s17, s18, s19⟩; go_simp; (with_reducible rfl)
              rotate_left
              ·exact ccc2_0
              refine one_ (i := 13) (N := some 26) acc2_14 rfl rfl (one_of HT_.out (by kernel_rfl)) (by decide) (fun K hK => ?_); refine goes_ Try.func29 (by kernel_rfl) rfl #[.string ((rd_T59 l0 x3_1).f1)] (by rfl) rfl rfl prr1_2 ?_; (with_reducible refine (accountingref06_Code.calls k1 ((rd_T59 l0 x3_1).f1) true _ A7.out).mono ?_); rintro e w' ⟨rfl, ⟨nd, rfl⟩⟩; refine ⟨_, rfl, ?_⟩; refine hK.out _ _ ⟨((HB.out.cell (World.block_lt_of_cell? w _ hw101_0)).trans hw101_0), ((HB.out.cell (World.block_lt_of_cell? w _ hw101_1)).trans hw101_1), ((HB.out.cell (World.block_lt_of_cell? w _ hw101_2)).trans hw101_2), ((HB.out.cell (World.block_lt_of_cell? w _ hw101_3)).trans hw101_3), ((HB.out.cell (World.block_lt_of_cell? w _ hw103_0)).trans hw103_0), ((HB.out.cell (World.block_lt_of_cell? w _ hw103_1)).trans hw103_1), ((HB.out.cell (World.block_lt_of_cell? w _ hw103_2)).trans hw103_2), ((HB.out.cell (World.block_lt_of_cell? w _ hw103_3)).trans hw103_3), ((HB.out.cell (World.block_lt_of_cell? w _ hw105_0)).trans hw105_0), ((HB.out.cell (World.block_lt_of_cell? w _ hw105_1)).trans hw105_1), ((HB.out.cell (World.block_lt_of_cell? w _ hw105_2)).trans hw105_2), ((HB.out.cell (World.block_lt_of_cell? w _ hw105_3)).trans hw105_3), ((HB.out.cell (World.block_lt_of_cell? w _ hw107_0)).trans hw107_0), ((HB.out.cell (World.block_lt_of_cell? w _ hw107_1)).trans hw107_1), ((HB.out.cell (World.block_lt_of_cell? w _ hw107_2)).trans hw107_2), ((HB.out.cell (World.block_lt_of_cell? w _ hw107_3)).trans hw107_3), ((HB.out.cell (World.block_lt_of_cell? w _ hw108_0)).trans hw108_0), ((HB.out.cell (World.block_lt_of_cell? w _ hw108_1)).trans hw108_1), ((HB.out.cell (World.block_lt_of_cell? w _ hw108_2)).trans hw108_2), ((HB.out.cell (World.block_lt_of_cell? w _ hw108_3)).trans hw108_3)⟩ (fun hHeld => ?_); clear hK K; refine norm_ (a' := ?_) ?_ ?_; rotate_left
              ·show Act.put _ (some 26) _ = _; simp only [Act.put, List.setIfInBounds_toArray, List.set_cons_zero, List.set_cons_succ, i64_w, i32_w]
               rfl
              refine pure_ (i := 14) (N := some 27) (v := ?_) (a' := ?_) acc2_15 rfl rfl (any_of HT_.out (by kernel_rfl)) (fun _ _ _ h => h) (Or.inl ⟨by rfl, ?_⟩) ?_ ?_; rotate_left
              ·intro w'; go_simp; (with_reducible rfl)
              rotate_left
              ·exact ccc2_0
              refine pure_ (i := 15) (N := some 28) (v := ?_) (a' := ?_) acc2_16 rfl rfl (any_of HT_.out (by kernel_rfl)) (fun _ _ _ h => h) (Or.inl ⟨by rfl, ?_⟩) ?_ ?_; rotate_left
              ·intro w'; go_simp; (with_reducible rfl)
              rotate_left
              ·exact ccc2_0
              refine pure_ (i := 16) (N := some 29) (v := ?_) (a' := ?_) acc2_17 rfl rfl (any_of HT_.out (by kernel_rfl)) (fun _ _ _ h => h) (Or.inl ⟨by rfl, ?_⟩) ?_ ?_; rotate_left
              ·intro w'; go_simp; (with_reducible rfl)
              rotate_left
              ·exact ccc2_0
              refine pure_ (i := 17) (N := some 30) (v := ?_) (a' := ?_) acc2_18 rfl rfl (any_of HT_.out (by kernel_rfl)) (fun _ _ _ h => h) (Or.inl ⟨by rfl, ?_⟩) ?_ ?_; rotate_left
              ·intro w'; go_simp; (with_reducible rfl)
              rotate_left
              ·exact ccc2_0
              refine pure_ (i := 18) (N := some 31) (v := ?_) (a' := ?_) acc2_19 rfl rfl (any_of HT_.out (by kernel_rfl)) (fun _ _ _ h => h) (Or.inl ⟨by rfl, ?_⟩) ?_ ?_; rotate_left
              ·intro w'; go_simp; (with_reducible rfl)
              rotate_left
              ·exact ccc2_0
              refine pure_ (i := 19) (N := some 32) (v := ?_) (a' := ?_) acc2_20 rfl rfl (any_of HT_.out (by kernel_rfl)) (fun _ _ _ h => h) (Or.inl ⟨by rfl, ?_⟩) ?_ ?_; rotate_left
              ·intro w'; go_simp; (with_reducible rfl)
              rotate_left
              ·exact ccc2_0
              refine pure_ (i := 20) (N := some 33) (v := ?_) (a' := ?_) acc2_21 rfl rfl (any_of HT_.out (by kernel_rfl)) (fun _ _ _ h => h) (Or.inl ⟨by rfl, ?_⟩) ?_ ?_; rotate_left
              ·intro w'; go_simp; (with_reducible rfl)
              rotate_left
              ·exact ccc2_0
              refine take_ (i := 21) (N := some 34) (v := ?_) (a' := ?_) acc2_22 rfl rfl (take_ofW HT_.out HW_.out (by kernel_rfl)) (fun _ _ _ h => h) (Or.inl ⟨by rfl, ?_⟩) hHeld ?_ ?_; rotate_left
              ·rintro w' ⟨s0, s1, s2, s3, s4, s5, s6, s7, s8, s9, s10, s11, s12, s13, s14, s15, s16, s17, s18, s19⟩; go_simp; (with_reducible rfl)
              rotate_left
              ·exact ccc2_0
              refine one_ (i := 22) (N := some 35) acc2_23 rfl rfl (one_of HT_.out (by kernel_rfl)) (by decide) (fun K hK => ?_); refine goes_ Try.func30 (by kernel_rfl) rfl #[.agg #[.int .i64 ((rd_T59 l0 x3_1).f2.f0), .int .i64 ((rd_T59 l0 x3_1).f2.f1)]] (by rfl) rfl rfl prr1_2 ?_; (with_reducible refine (accountingref25_Rate.calls k1 ((rd_T59 l0 x3_1).f2.f0) ((rd_T59 l0 x3_1).f2.f1) true _ A9.out).mono ?_); rintro e w19 ⟨rfl, hb⟩; refine ⟨_, rfl, ?_⟩; have n0_ := Aside0.mk (below_step prr1_4 hb); clear HB; have HB := n0_; clear n0_; (try clear hb); (try clear hb2); (try clear hk); (try clear hi); refine hK.out _ _ ⟨((HB.out.cell (World.block_lt_of_cell? w _ hw101_0)).trans hw101_0), ((HB.out.cell (World.block_lt_of_cell? w _ hw101_1)).trans hw101_1), ((HB.out.cell (World.block_lt_of_cell? w _ hw101_2)).trans hw101_2), ((HB.out.cell (World.block_lt_of_cell? w _ hw101_3)).trans hw101_3), ((HB.out.cell (World.block_lt_of_cell? w _ hw103_0)).trans hw103_0), ((HB.out.cell (World.block_lt_of_cell? w _ hw103_1)).trans hw103_1), ((HB.out.cell (World.block_lt_of_cell? w _ hw103_2)).trans hw103_2), ((HB.out.cell (World.block_lt_of_cell? w _ hw103_3)).trans hw103_3), ((HB.out.cell (World.block_lt_of_cell? w _ hw105_0)).trans hw105_0), ((HB.out.cell (World.block_lt_of_cell? w _ hw105_1)).trans hw105_1), ((HB.out.cell (World.block_lt_of_cell? w _ hw105_2)).trans hw105_2), ((HB.out.cell (World.block_lt_of_cell? w _ hw105_3)).trans hw105_3), ((HB.out.cell (World.block_lt_of_cell? w _ hw107_0)).trans hw107_0), ((HB.out.cell (World.block_lt_of_cell? w _ hw107_1)).trans hw107_1), ((HB.out.cell (World.block_lt_of_cell? w _ hw107_2)).trans hw107_2), ((HB.out.cell (World.block_lt_of_cell? w _ hw107_3)).trans hw107_3), ((HB.out.cell (World.block_lt_of_cell? w _ hw108_0)).trans hw108_0), ((HB.out.cell (World.block_lt_of_cell? w _ hw108_1)).trans hw108_1), ((HB.out.cell (World.block_lt_of_cell? w _ hw108_2)).trans hw108_2), ((HB.out.cell (World.block_lt_of_cell? w _ hw108_3)).trans hw108_3)⟩ (fun hHeld => ?_); clear hK K; refine norm_ (a' := ?_) ?_ ?_; rotate_left
              ·show Act.put _ (some 35) _ = _; simp only [Act.put, List.setIfInBounds_toArray, List.set_cons_zero, List.set_cons_succ, i64_w, i32_w]
               rfl
              refine pure_ (i := 23) (N := some 36) (v := ?_) (a' := ?_) acc2_24 rfl rfl (any_of HT_.out (by kernel_rfl)) (fun _ _ _ h => h) (Or.inl ⟨by rfl, ?_⟩) ?_ ?_; rotate_left
              ·intro w'; go_simp; (with_reducible rfl)
              rotate_left
              ·exact ccc2_0
              refine pure_ (i := 24) (N := some 37) (v := ?_) (a' := ?_) acc2_25 rfl rfl (any_of HT_.out (by kernel_rfl)) (fun _ _ _ h => h) (Or.inl ⟨by rfl, ?_⟩) ?_ ?_; rotate_left
              ·intro w'; go_simp; (with_reducible rfl)
              rotate_left
              ·exact ccc2_0
              refine pure_ (i := 25) (N := some 38) (v := ?_) (a' := ?_) acc2_26 rfl rfl (any_of HT_.out (by kernel_rfl)) (fun _ _ _ h => h) (Or.inl ⟨by rfl, ?_⟩) ?_ ?_; rotate_left
              ·intro w'; go_simp; (with_reducible rfl)
              rotate_left
              ·exact ccc2_0
              refine pure_ (i := 26) (N := some 39) (v := ?_) (a' := ?_) acc2_27 rfl rfl (any_of HT_.out (by kernel_rfl)) (fun _ _ _ h => h) (Or.inl ⟨by rfl, ?_⟩) ?_ ?_; rotate_left
              ·intro w'; go_simp; (with_reducible rfl)
              rotate_left
              ·exact ccc2_0
              refine pure_ (i := 27) (N := some 40) (v := ?_) (a' := ?_) acc2_28 rfl rfl (any_of HT_.out (by kernel_rfl)) (fun _ _ _ h => h) (Or.inl ⟨by rfl, ?_⟩) ?_ ?_; rotate_left
              ·intro w'; go_simp; (with_reducible rfl)
              rotate_left
              ·exact ccc2_0
              refine pure_ (i := 28) (N := some 41) (v := ?_) (a' := ?_) acc2_29 rfl rfl (any_of HT_.out (by kernel_rfl)) (fun _ _ _ h => h) (Or.inl ⟨by rfl, ?_⟩) ?_ ?_; rotate_left
              ·intro w'; go_simp; (with_reducible rfl)
              rotate_left
              ·exact ccc2_0
              refine pure_ (i := 29) (N := some 42) (v := ?_) (a' := ?_) acc2_30 rfl rfl (any_of HT_.out (by kernel_rfl)) (fun _ _ _ h => h) (Or.inl ⟨by rfl, ?_⟩) ?_ ?_; rotate_left
              ·intro w'; go_simp; (with_reducible rfl)
              rotate_left
              ·exact ccc2_0
              refine pure_ (i := 30) (N := some 43) (v := ?_) (a' := ?_) acc2_31 rfl rfl (any_of HT_.out (by kernel_rfl)) (fun _ _ _ h => h) (Or.inl ⟨by rfl, ?_⟩) ?_ ?_; rotate_left
              ·intro w'; go_simp; (with_reducible rfl)
              rotate_left
              ·exact ccc2_0
              refine pure_ (i := 31) (N := some 44) (v := ?_) (a' := ?_) acc2_32 rfl rfl (any_of HT_.out (by kernel_rfl)) (fun _ _ _ h => h) (Or.inl ⟨by rfl, ?_⟩) ?_ ?_; rotate_left
              ·intro w'; go_simp; (with_reducible rfl)
              rotate_left
              ·exact ccc2_0
              refine pure_ (i := 32) (N := some 45) (v := ?_) (a' := ?_) acc2_33 rfl rfl (any_of HT_.out (by kernel_rfl)) (fun _ _ _ h => h) (Or.inl ⟨by rfl, ?_⟩) ?_ ?_; rotate_left
              ·intro w'; go_simp; (with_reducible rfl)
              rotate_left
              ·exact ccc2_0
              refine pure_ (i := 33) (N := some 46) (v := ?_) (a' := ?_) acc2_34 rfl rfl (any_of HT_.out (by kernel_rfl)) (fun _ _ _ h => h) (Or.inl ⟨by rfl, ?_⟩) ?_ ?_; rotate_left
              ·intro w'; go_simp; (with_reducible rfl)
              rotate_left
              ·exact ccc2_0
              refine pure_ (i := 35) (N := some 48) (v := ?_) (a' := ?_) acc2_35 rfl rfl (any_of HT_.out (by kernel_rfl)) (fun _ _ _ h => h) (Or.inl ⟨by rfl, ?_⟩) ?_ ?_; rotate_left
              ·intro w'; go_simp; (with_reducible rfl)
              rotate_left
              ·exact ccc2_0
              refine pure_ (i := 36) (N := some 49) (v := ?_) (a' := ?_) acc2_37 rfl rfl (any_of HT_.out (by kernel_rfl)) (fun _ _ _ h => h) (Or.inl ⟨by rfl, ?_⟩) ?_ ?_; rotate_left
              ·intro w'; go_simp; (with_reducible rfl)
              rotate_left
              ·exact ccc2_0
              refine pure_ (i := 37) (N := some 50) (v := ?_) (a' := ?_) acc2_39 rfl rfl (any_of HT_.out (by kernel_rfl)) (fun _ _ _ h => h) (Or.inl ⟨by rfl, ?_⟩) ?_ ?_; rotate_left
              ·intro w'; go_simp; (with_reducible rfl)
              rotate_left
              ·exact ccc2_0
              refine pure_ (i := 38) (N := some 51) (v := ?_) (a' := ?_) acc2_41 rfl rfl (any_of HT_.out (by kernel_rfl)) (fun _ _ _ h => h) (Or.inl ⟨by rfl, ?_⟩) ?_ ?_; rotate_left
              ·intro w'; go_simp; (with_reducible rfl)
              rotate_left
              ·exact ccc2_0
              refine take_ (i := 34) (N := some 47) (v := ?_) (a' := ?_) acc2_43 rfl rfl (take_ofW HT_.out HW_.out (by kernel_rfl)) (fun _ _ _ h => h) (Or.inl ⟨by rfl, ?_⟩) hHeld ?_ ?_; rotate_left
              ·rintro w' ⟨s0, s1, s2, s3, s4, s5, s6, s7, s8, s9, s10, s11, s12, s13, s14, s15, s16, s17, s18, s19⟩; go_simp; (with_reducible rfl)
              rotate_left
              ·exact ccc2_0
              refine take_ (i := 39) (N := some 52) (v := ?_) (a' := ?_) acc2_44 rfl rfl (take_ofW HT_.out HW_.out (by kernel_rfl)) (fun _ _ _ h => h) (Or.inl ⟨by rfl, ?_⟩) hHeld ?_ ?_; rotate_left
              ·rintro w' ⟨s0, s1, s2, s3, s4, s5, s6, s7, s8, s9, s10, s11, s12, s13, s14, s15, s16, s17, s18, s19⟩; go_simp; (with_reducible rfl)
              rotate_left
              ·exact ccc2_0
              refine pure_ (i := 40) (N := some 53) (v := ?_) (a' := ?_) acc2_45 rfl rfl (any_of HT_.out (by kernel_rfl)) (fun _ _ _ h => h) (Or.inl ⟨by rfl, ?_⟩) ?_ ?_; rotate_left
              ·intro w'; go_simp; (with_reducible rfl)
              rotate_left
              ·exact ccc2_0
              refine pure_ (i := 41) (N := some 54) (v := ?_) (a' := ?_) acc2_46 rfl rfl (any_of HT_.out (by kernel_rfl)) (fun _ _ _ h => h) (Or.inl ⟨by rfl, ?_⟩) ?_ ?_; rotate_left
              ·intro w'; go_simp; (with_reducible rfl)
              rotate_left
              ·exact ccc2_0
              refine pure_ (i := 42) (N := some 55) (v := ?_) (a' := ?_) acc2_47 rfl rfl (any_of HT_.out (by kernel_rfl)) (fun _ _ _ h => h) (Or.inl ⟨by rfl, ?_⟩) ?_ ?_; rotate_left
              ·intro w'; go_simp; (with_reducible rfl)
              rotate_left
              ·exact ccc2_0
              refine done_ (done_of HT_.out (by kernel_rfl)) ?_; (try go_wp2)
              go_ret
              exact ⟨by first | rfl | (simp [errW_none, errW_some] <;> rfl) | (simp only [← hji12]; first | rfl | (simp [errW_none, errW_some] <;> rfl)) | (simp [*, errW_none, errW_some] <;> rfl), prr1_4⟩
            ·rw [if_neg c14] at H; exact absurd H (by simp)
           ·rw [if_neg c13] at H; exact absurd H (by simp)
          ·rw [if_neg c11] at H; have c11b0 : decide (0 < x3_1) = false := decide_eq_false c11; clear c11; have H' := Aside0.mk H; clear H; (try go_wp2); have n0_ := Aside0.mk (below_drew1 HB.out); clear HB; have HB := n0_; clear n0_; have p101 : 0 ≤ (x3_1 : Int) := of_decide_eq_true pcc1_0; have q101 : x3_1 < (l0.length : Int) := of_decide_eq_true pcc1_0; obtain ⟨ad101, e101, hx101_0, hx101_1, hx101_2, hx101_3⟩ := at_T59 HR0.out x3_1 p101 q101; have hw101_3 := hx101_3; have hw101_2 := hx101_2; have hw101_1 := hx101_1; have hw101_0 := hx101_0
           cases e101
           replace hx101_0 := (HB.out.cell (World.block_lt_of_cell? w _ hx101_0)).trans hx101_0; replace hx101_1 := (HB.out.cell (World.block_lt_of_cell? w _ hx101_1)).trans hx101_1; replace hx101_2 := (HB.out.cell (World.block_lt_of_cell? w _ hx101_2)).trans hx101_2; replace hx101_3 := (HB.out.cell (World.block_lt_of_cell? w _ hx101_3)).trans hx101_3; replace p101 := eq_true p101; replace q101 := eq_true q101; have p103 : 0 ≤ (x3_1 : Int) := of_decide_eq_true pcc1_0; have q103 : x3_1 < (l0.length : Int) := of_decide_eq_true pcc1_0; obtain ⟨ad103, e103, hx103_0, hx103_1, hx103_2, hx103_3⟩ := at_T59 HR0.out x3_1 p103 q103; have hw103_3 := hx103_3; have hw103_2 := hx103_2; have hw103_1 := hx103_1; have hw103_0 := hx103_0; obtain rfl : ad101 = ad103 := (by injection e103); replace hx103_0 := (HB.out.cell (World.block_lt_of_cell? w _ hx103_0)).trans hx103_0; replace hx103_1 := (HB.out.cell (World.block_lt_of_cell? w _ hx103_1)).trans hx103_1; replace hx103_2 := (HB.out.cell (World.block_lt_of_cell? w _ hx103_2)).trans hx103_2; replace hx103_3 := (HB.out.cell (World.block_lt_of_cell? w _ hx103_3)).trans hx103_3; replace p103 := eq_true p103; replace q103 := eq_true q103; have p105 : 0 ≤ (x3_1 : Int) := of_decide_eq_true pcc1_0; have q105 : x3_1 < (l0.length : Int) := of_decide_eq_true pcc1_0; obtain ⟨ad105, e105, hx105_0, hx105_1, hx105_2, hx105_3⟩ := at_T59 HR0.out x3_1 p105 q105; have hw105_3 := hx105_3; have hw105_2 := hx105_2; have hw105_1 := hx105_1; have hw105_0 := hx105_0; obtain rfl : ad101 = ad105 := (by injection e105); replace hx105_0 := (HB.out.cell (World.block_lt_of_cell? w _ hx105_0)).trans hx105_0; replace hx105_1 := (HB.out.cell (World.block_lt_of_cell? w _ hx105_1)).trans hx105_1; replace hx105_2 := (HB.out.cell (World.block_lt_of_cell? w _ hx105_2)).trans hx105_2; replace hx105_3 := (HB.out.cell (World.block_lt_of_cell? w _ hx105_3)).trans hx105_3; replace p105 := eq_true p105; replace q105 := eq_true q105; refine start_ (n := 43) (S := fun w' => w'.cell? (ad101.add ((x3_1).toNat * 4)) = some (.string ((rd_T59 l0 x3_1).f0)) ∧ w'.cell? ⟨(ad101.add ((x3_1).toNat * 4)).block, (ad101.add ((x3_1).toNat * 4)).off + 1, none⟩ = some (.string ((rd_T59 l0 x3_1).f1)) ∧ w'.cell? ⟨(ad101.add ((x3_1).toNat * 4)).block, (ad101.add ((x3_1).toNat * 4)).off + 2, none⟩ = some (.int .i64 ((rd_T59 l0 x3_1).f2.f0)) ∧ w'.cell? ⟨(ad101.add ((x3_1).toNat * 4)).block, (ad101.add ((x3_1).toNat * 4)).off + 3, none⟩ = some (.int .i64 ((rd_T59 l0 x3_1).f2.f1)) ∧ w'.cell? (ad101.add ((x3_1).toNat * 4)) = some (.string ((rd_T59 l0 x3_1).f0)) ∧ w'.cell? ⟨(ad101.add ((x3_1).toNat * 4)).block, (ad101.add ((x3_1).toNat * 4)).off + 1, none⟩ = some (.string ((rd_T59 l0 x3_1).f1)) ∧ w'.cell? ⟨(ad101.add ((x3_1).toNat * 4)).block, (ad101.add ((x3_1).toNat * 4)).off + 2, none⟩ = some (.int .i64 ((rd_T59 l0 x3_1).f2.f0)) ∧ w'.cell? ⟨(ad101.add ((x3_1).toNat * 4)).block, (ad101.add ((x3_1).toNat * 4)).off + 3, none⟩ = some (.int .i64 ((rd_T59 l0 x3_1).f2.f1)) ∧ w'.cell? (ad101.add ((x3_1).toNat * 4)) = some (.string ((rd_T59 l0 x3_1).f0)) ∧ w'.cell? ⟨(ad101.add ((x3_1).toNat * 4)).block, (ad101.add ((x3_1).toNat * 4)).off + 1, none⟩ = some (.string ((rd_T59 l0 x3_1).f1)) ∧ w'.cell? ⟨(ad101.add ((x3_1).toNat * 4)).block, (ad101.add ((x3_1).toNat * 4)).off + 2, none⟩ = some (.int .i64 ((rd_T59 l0 x3_1).f2.f0)) ∧ w'.cell? ⟨(ad101.add ((x3_1).toNat * 4)).block, (ad101.add ((x3_1).toNat * 4)).off + 3, none⟩ = some (.int .i64 ((rd_T59 l0 x3_1).f2.f1))) (ds := []) acc2_0 (by kernel_rfl) rfl rfl ⟨((HB.out.cell (World.block_lt_of_cell? w _ hw101_0)).trans hw101_0), ((HB.out.cell (World.block_lt_of_cell? w _ hw101_1)).trans hw101_1), ((HB.out.cell (World.block_lt_of_cell? w _ hw101_2)).trans hw101_2), ((HB.out.cell (World.block_lt_of_cell? w _ hw101_3)).trans hw101_3), ((HB.out.cell (World.block_lt_of_cell? w _ hw103_0)).trans hw103_0), ((HB.out.cell (World.block_lt_of_cell? w _ hw103_1)).trans hw103_1), ((HB.out.cell (World.block_lt_of_cell? w _ hw103_2)).trans hw103_2), ((HB.out.cell (World.block_lt_of_cell? w _ hw103_3)).trans hw103_3), ((HB.out.cell (World.block_lt_of_cell? w _ hw105_0)).trans hw105_0), ((HB.out.cell (World.block_lt_of_cell? w _ hw105_1)).trans hw105_1), ((HB.out.cell (World.block_lt_of_cell? w _ hw105_2)).trans hw105_2), ((HB.out.cell (World.block_lt_of_cell? w _ hw105_3)).trans hw105_3)⟩ (fun hHeld => ?_); refine with_tabW accountingref25_Codes.tab6 accountingref25_Codes.bits6 (fun HT_ HW_ => ?_); generalize wr.drew = w20 at HB hx101_0 hx101_1 hx101_2 hx101_3 hx103_0 hx103_1 hx103_2 hx103_3 hx105_0 hx105_1 hx105_2 hx105_3 hHeld ⊢; refine pure_ (i := 0) (N := some 13) (v := ?_) (a' := ?_) acc2_1 rfl rfl (any_of HT_.out (by kernel_rfl)) (fun _ _ _ h => h) (Or.inl ⟨by rfl, ?_⟩) ?_ ?_; rotate_left
           ·intro w'; go_simp; (with_reducible rfl)
           rotate_left
           ·exact ccc2_0
           refine pure_ (i := 1) (N := some 14) (v := ?_) (a' := ?_) acc2_2 rfl rfl (any_of HT_.out (by kernel_rfl)) (fun _ _ _ h => h) (Or.inl ⟨by rfl, ?_⟩) ?_ ?_; rotate_left
           ·intro w'; go_simp; (with_reducible rfl)
           rotate_left
           ·exact ccc2_0
           refine pure_ (i := 2) (N := some 15) (v := ?_) (a' := ?_) acc2_3 rfl rfl (any_of HT_.out (by kernel_rfl)) (fun _ _ _ h => h) (Or.inl ⟨by rfl, ?_⟩) ?_ ?_; rotate_left
           ·intro w'; go_simp; (with_reducible rfl)
           rotate_left
           ·exact ccc2_0
           refine pure_ (i := 3) (N := some 16) (v := ?_) (a' := ?_) acc2_4 rfl rfl (any_of HT_.out (by kernel_rfl)) (fun _ _ _ h => h) (Or.inl ⟨by rfl, ?_⟩) ?_ ?_; rotate_left
           ·intro w'; go_simp; (with_reducible rfl)
           rotate_left
           ·exact ccc2_0
           refine take_ (i := 4) (N := some 17) (v := ?_) (a' := ?_) acc2_5 rfl rfl (take_ofW HT_.out HW_.out (by kernel_rfl)) (fun _ _ _ h => h) (Or.inl ⟨by rfl, ?_⟩) hHeld ?_ ?_; rotate_left
           ·rintro w' ⟨s0, s1, s2, s3, s4, s5, s6, s7, s8, s9, s10, s11⟩; go_simp; (with_reducible rfl)
           rotate_left
           ·exact ccc2_0
           refine one_ (i := 5) (N := some 18) acc2_6 rfl rfl (one_of HT_.out (by kernel_rfl)) (by decide) (fun K hK => ?_); refine goes_ Try.func29 (by kernel_rfl) rfl #[.string ((rd_T59 l0 x3_1).f0)] (by rfl) rfl rfl prr1_2 ?_; (with_reducible refine (accountingref06_Code.calls k1 ((rd_T59 l0 x3_1).f0) true _ A5.out).mono ?_); rintro e w' ⟨rfl, ⟨nd, rfl⟩⟩; refine ⟨_, rfl, ?_⟩; refine hK.out _ _ ⟨((HB.out.cell (World.block_lt_of_cell? w _ hw101_0)).trans hw101_0), ((HB.out.cell (World.block_lt_of_cell? w _ hw101_1)).trans hw101_1), ((HB.out.cell (World.block_lt_of_cell? w _ hw101_2)).trans hw101_2), ((HB.out.cell (World.block_lt_of_cell? w _ hw101_3)).trans hw101_3), ((HB.out.cell (World.block_lt_of_cell? w _ hw103_0)).trans hw103_0), ((HB.out.cell (World.block_lt_of_cell? w _ hw103_1)).trans hw103_1), ((HB.out.cell (World.block_lt_of_cell? w _ hw103_2)).trans hw103_2), ((HB.out.cell (World.block_lt_of_cell? w _ hw103_3)).trans hw103_3), ((HB.out.cell (World.block_lt_of_cell? w _ hw105_0)).trans hw105_0), ((HB.out.cell (World.block_lt_of_cell? w _ hw105_1)).trans hw105_1), ((HB.out.cell (World.block_lt_of_cell? w _ hw105_2)).trans hw105_2), ((HB.out.cell (World.block_lt_of_cell? w _ hw105_3)).trans hw105_3)⟩ (fun hHeld => ?_); clear hK K; refine norm_ (a' := ?_) ?_ ?_; rotate_left
           ·show Act.put _ (some 18) _ = _; simp only [Act.put, List.setIfInBounds_toArray, List.set_cons_zero, List.set_cons_succ, i64_w, i32_w]
            rfl
           refine pure_ (i := 6) (N := some 19) (v := ?_) (a' := ?_) acc2_7 rfl rfl (any_of HT_.out (by kernel_rfl)) (fun _ _ _ h => h) (Or.inl ⟨by rfl, ?_⟩) ?_ ?_; rotate_left
           ·intro w'; go_simp; (with_reducible rfl)
           rotate_left
           ·exact ccc2_0
           refine pure_ (i := 7) (N := some 20) (v := ?_) (a' := ?_) acc2_8 rfl rfl (any_of HT_.out (by kernel_rfl)) (fun _ _ _ h => h) (Or.inl ⟨by rfl, ?_⟩) ?_ ?_; rotate_left
           ·intro w'; go_simp; (with_reducible rfl)
           rotate_left
           ·exact ccc2_0
           refine pure_ (i := 8) (N := some 21) (v := ?_) (a' := ?_) acc2_9 rfl rfl (any_of HT_.out (by kernel_rfl)) (fun _ _ _ h => h) (Or.inl ⟨by rfl, ?_⟩) ?_ ?_; rotate_left
           ·intro w'; go_simp; (with_reducible rfl)
           rotate_left
           ·exact ccc2_0
           refine pure_ (i := 9) (N := some 22) (v := ?_) (a' := ?_) acc2_10 rfl rfl (any_of HT_.out (by kernel_rfl)) (fun _ _ _ h => h) (Or.inl ⟨by rfl, ?_⟩) ?_ ?_; rotate_left
           ·intro w'; go_simp; (with_reducible rfl)
           rotate_left
           ·exact ccc2_0
           refine pure_ (i := 10) (N := some 23) (v := ?_) (a' := ?_) acc2_11 rfl rfl (any_of HT_.out (by kernel_rfl)) (fun _ _ _ h => h) (Or.inl ⟨by rfl, ?_⟩) ?_ ?_; rotate_left
           ·intro w'; go_simp; (with_reducible rfl)
           rotate_left
           ·exact ccc2_0
           refine pure_ (i := 11) (N := some 24) (v := ?_) (a' := ?_) acc2_12 rfl rfl (any_of HT_.out (by kernel_rfl)) (fun _ _ _ h => h) (Or.inl ⟨by rfl, ?_⟩) ?_ ?_; rotate_left
           ·intro w'; go_simp; (with_reducible rfl)
           rotate_left
           ·exact ccc2_0
           refine take_ (i := 12) (N := some 25) (v := ?_) (a' := ?_) acc2_13 rfl rfl (take_ofW HT_.out HW_.out (by kernel_rfl)) (fun _ _ _ h => h) (Or.inl ⟨by rfl, ?_⟩) hHeld ?_ ?_; rotate_left
           ·rintro w' ⟨s0, s1, s2, s3, s4, s5, s6, s7, s8, s9, s10, s11⟩; go_simp; (with_reducible rfl)
           rotate_left
           ·exact ccc2_0
           refine one_ (i := 13) (N := some 26) acc2_14 rfl rfl (one_of HT_.out (by kernel_rfl)) (by decide) (fun K hK => ?_); refine goes_ Try.func29 (by kernel_rfl) rfl #[.string ((rd_T59 l0 x3_1).f1)] (by rfl) rfl rfl prr1_2 ?_; (with_reducible refine (accountingref06_Code.calls k1 ((rd_T59 l0 x3_1).f1) true _ A7.out).mono ?_); rintro e w' ⟨rfl, ⟨nd, rfl⟩⟩; refine ⟨_, rfl, ?_⟩; refine hK.out _ _ ⟨((HB.out.cell (World.block_lt_of_cell? w _ hw101_0)).trans hw101_0), ((HB.out.cell (World.block_lt_of_cell? w _ hw101_1)).trans hw101_1), ((HB.out.cell (World.block_lt_of_cell? w _ hw101_2)).trans hw101_2), ((HB.out.cell (World.block_lt_of_cell? w _ hw101_3)).trans hw101_3), ((HB.out.cell (World.block_lt_of_cell? w _ hw103_0)).trans hw103_0), ((HB.out.cell (World.block_lt_of_cell? w _ hw103_1)).trans hw103_1), ((HB.out.cell (World.block_lt_of_cell? w _ hw103_2)).trans hw103_2), ((HB.out.cell (World.block_lt_of_cell? w _ hw103_3)).trans hw103_3), ((HB.out.cell (World.block_lt_of_cell? w _ hw105_0)).trans hw105_0), ((HB.out.cell (World.block_lt_of_cell? w _ hw105_1)).trans hw105_1), ((HB.out.cell (World.block_lt_of_cell? w _ hw105_2)).trans hw105_2), ((HB.out.cell (World.block_lt_of_cell? w _ hw105_3)).trans hw105_3)⟩ (fun hHeld => ?_); clear hK K; refine norm_ (a' := ?_) ?_ ?_; rotate_left
           ·show Act.put _ (some 26) _ = _; simp only [Act.put, List.setIfInBounds_toArray, List.set_cons_zero, List.set_cons_succ, i64_w, i32_w]
            rfl
           refine pure_ (i := 14) (N := some 27) (v := ?_) (a' := ?_) acc2_15 rfl rfl (any_of HT_.out (by kernel_rfl)) (fun _ _ _ h => h) (Or.inl ⟨by rfl, ?_⟩) ?_ ?_; rotate_left
           ·intro w'; go_simp; (with_reducible rfl)
           rotate_left
           ·exact ccc2_0
           refine pure_ (i := 15) (N := some 28) (v := ?_) (a' := ?_) acc2_16 rfl rfl (any_of HT_.out (by kernel_rfl)) (fun _ _ _ h => h) (Or.inl ⟨by rfl, ?_⟩) ?_ ?_; rotate_left
           ·intro w'; go_simp; (with_reducible rfl)
           rotate_left
           ·exact ccc2_0
           refine pure_ (i := 16) (N := some 29) (v := ?_) (a' := ?_) acc2_17 rfl rfl (any_of HT_.out (by kernel_rfl)) (fun _ _ _ h => h) (Or.inl ⟨by rfl, ?_⟩) ?_ ?_; rotate_left
           ·intro w'; go_simp; (with_reducible rfl)
           rotate_left
           ·exact ccc2_0
           refine pure_ (i := 17) (N := some 30) (v := ?_) (a' := ?_) acc2_18 rfl rfl (any_of HT_.out (by kernel_rfl)) (fun _ _ _ h => h) (Or.inl ⟨by rfl, ?_⟩) ?_ ?_; rotate_left
           ·intro w'; go_simp; (with_reducible rfl)
           rotate_left
           ·exact ccc2_0
           refine pure_ (i := 18) (N := some 31) (v := ?_) (a' := ?_) acc2_19 rfl rfl (any_of HT_.out (by kernel_rfl)) (fun _ _ _ h => h) (Or.inl ⟨by rfl, ?_⟩) ?_ ?_; rotate_left
           ·intro w'; go_simp; (with_reducible rfl)
           rotate_left
           ·exact ccc2_0
           refine pure_ (i := 19) (N := some 32) (v := ?_) (a' := ?_) acc2_20 rfl rfl (any_of HT_.out (by kernel_rfl)) (fun _ _ _ h => h) (Or.inl ⟨by rfl, ?_⟩) ?_ ?_; rotate_left
           ·intro w'; go_simp; (with_reducible rfl)
           rotate_left
           ·exact ccc2_0
           refine pure_ (i := 20) (N := some 33) (v := ?_) (a' := ?_) acc2_21 rfl rfl (any_of HT_.out (by kernel_rfl)) (fun _ _ _ h => h) (Or.inl ⟨by rfl, ?_⟩) ?_ ?_; rotate_left
           ·intro w'; go_simp; (with_reducible rfl)
           rotate_left
           ·exact ccc2_0
           refine take_ (i := 21) (N := some 34) (v := ?_) (a' := ?_) acc2_22 rfl rfl (take_ofW HT_.out HW_.out (by kernel_rfl)) (fun _ _ _ h => h) (Or.inl ⟨by rfl, ?_⟩) hHeld ?_ ?_; rotate_left
           ·rintro w' ⟨s0, s1, s2, s3, s4, s5, s6, s7, s8, s9, s10, s11⟩; go_simp; (with_reducible rfl)
           rotate_left
           ·exact ccc2_0
           refine one_ (i := 22) (N := some 35) acc2_23 rfl rfl (one_of HT_.out (by kernel_rfl)) (by decide) (fun K hK => ?_); refine goes_ Try.func30 (by kernel_rfl) rfl #[.agg #[.int .i64 ((rd_T59 l0 x3_1).f2.f0), .int .i64 ((rd_T59 l0 x3_1).f2.f1)]] (by rfl) rfl rfl prr1_2 ?_; (with_reducible refine (accountingref25_Rate.calls k1 ((rd_T59 l0 x3_1).f2.f0) ((rd_T59 l0 x3_1).f2.f1) true _ A9.out).mono ?_); rintro e w21 ⟨rfl, hb⟩; refine ⟨_, rfl, ?_⟩; have n0_ := Aside0.mk (below_step prr1_4 hb); clear HB; have HB := n0_; clear n0_; (try clear hb); (try clear hb2); (try clear hk); (try clear hi); refine hK.out _ _ ⟨((HB.out.cell (World.block_lt_of_cell? w _ hw101_0)).trans hw101_0), ((HB.out.cell (World.block_lt_of_cell? w _ hw101_1)).trans hw101_1), ((HB.out.cell (World.block_lt_of_cell? w _ hw101_2)).trans hw101_2), ((HB.out.cell (World.block_lt_of_cell? w _ hw101_3)).trans hw101_3), ((HB.out.cell (World.block_lt_of_cell? w _ hw103_0)).trans hw103_0), ((HB.out.cell (World.block_lt_of_cell? w _ hw103_1)).trans hw103_1), ((HB.out.cell (World.block_lt_of_cell? w _ hw103_2)).trans hw103_2), ((HB.out.cell (World.block_lt_of_cell? w _ hw103_3)).trans hw103_3), ((HB.out.cell (World.block_lt_of_cell? w _ hw105_0)).trans hw105_0), ((HB.out.cell (World.block_lt_of_cell? w _ hw105_1)).trans hw105_1), ((HB.out.cell (World.block_lt_of_cell? w _ hw105_2)).trans hw105_2), ((HB.out.cell (World.block_lt_of_cell? w _ hw105_3)).trans hw105_3)⟩ (fun hHeld => ?_); clear hK K; refine norm_ (a' := ?_) ?_ ?_; rotate_left
           ·show Act.put _ (some 35) _ = _; simp only [Act.put, List.setIfInBounds_toArray, List.set_cons_zero, List.set_cons_succ, i64_w, i32_w]
            rfl
           refine pure_ (i := 23) (N := some 36) (v := ?_) (a' := ?_) acc2_24 rfl rfl (any_of HT_.out (by kernel_rfl)) (fun _ _ _ h => h) (Or.inl ⟨by rfl, ?_⟩) ?_ ?_; rotate_left
           ·intro w'; go_simp; (with_reducible rfl)
           rotate_left
           ·exact ccc2_0
           refine pure_ (i := 24) (N := some 37) (v := ?_) (a' := ?_) acc2_25 rfl rfl (any_of HT_.out (by kernel_rfl)) (fun _ _ _ h => h) (Or.inl ⟨by rfl, ?_⟩) ?_ ?_; rotate_left
           ·intro w'; go_simp; (with_reducible rfl)
           rotate_left
           ·exact ccc2_0
           refine pure_ (i := 25) (N := some 38) (v := ?_) (a' := ?_) acc2_26 rfl rfl (any_of HT_.out (by kernel_rfl)) (fun _ _ _ h => h) (Or.inl ⟨by rfl, ?_⟩) ?_ ?_; rotate_left
           ·intro w'; go_simp; (with_reducible rfl)
           rotate_left
           ·exact ccc2_0
           refine pure_ (i := 26) (N := some 39) (v := ?_) (a' := ?_) acc2_27 rfl rfl (any_of HT_.out (by kernel_rfl)) (fun _ _ _ h => h) (Or.inl ⟨by rfl, ?_⟩) ?_ ?_; rotate_left
           ·intro w'; go_simp; (with_reducible rfl)
           rotate_left
           ·exact ccc2_0
           refine pure_ (i := 27) (N := some 40) (v := ?_) (a' := ?_) acc2_28 rfl rfl (any_of HT_.out (by kernel_rfl)) (fun _ _ _ h => h) (Or.inl ⟨by rfl, ?_⟩) ?_ ?_; rotate_left
           ·intro w'; go_simp; (with_reducible rfl)
           rotate_left
           ·exact ccc2_0
           refine pure_ (i := 28) (N := some 41) (v := ?_) (a' := ?_) acc2_29 rfl rfl (any_of HT_.out (by kernel_rfl)) (fun _ _ _ h => h) (Or.inl ⟨by rfl, ?_⟩) ?_ ?_; rotate_left
           ·intro w'; go_simp; (with_reducible rfl)
           rotate_left
           ·exact ccc2_0
           refine pure_ (i := 29) (N := some 42) (v := undef) (a' := ?_) acc2_30 rfl rfl (any_of HT_.out (by kernel_rfl)) (fun _ _ _ h => h) (Or.inr ⟨by rfl, rfl⟩) ?_ ?_; rotate_left
           ·exact ccc2_0
           refine pure_ (i := 30) (N := some 43) (v := undef) (a' := ?_) acc2_31 rfl rfl (any_of HT_.out (by kernel_rfl)) (fun _ _ _ h => h) (Or.inr ⟨by rfl, rfl⟩) ?_ ?_; rotate_left
           ·exact ccc2_0
           refine pure_ (i := 31) (N := some 44) (v := undef) (a' := ?_) acc2_32 rfl rfl (any_of HT_.out (by kernel_rfl)) (fun _ _ _ h => h) (Or.inr ⟨by rfl, rfl⟩) ?_ ?_; rotate_left
           ·exact ccc2_0
           refine pure_ (i := 32) (N := some 45) (v := undef) (a' := ?_) acc2_33 rfl rfl (any_of HT_.out (by kernel_rfl)) (fun _ _ _ h => h) (Or.inr ⟨by rfl, rfl⟩) ?_ ?_; rotate_left
           ·exact ccc2_0
           refine pure_ (i := 33) (N := some 46) (v := undef) (a' := ?_) acc2_34 rfl rfl (any_of HT_.out (by kernel_rfl)) (fun _ _ _ h => h) (Or.inr ⟨by rfl, rfl⟩) ?_ ?_; rotate_left
           ·exact ccc2_0
           refine pure_ (i := 34) (N := some 47) (v := undef) (a' := ?_) acc2_36 rfl rfl (any_of HT_.out (by kernel_rfl)) (fun _ _ _ h => h) (Or.inr ⟨by rfl, rfl⟩) ?_ ?_; rotate_left
           ·exact ccc2_0
           refine pure_ (i := 35) (N := some 48) (v := undef) (a' := ?_) acc2_38 rfl rfl (any_of HT_.out (by kernel_rfl)) (fun _ _ _ h => h) (Or.inr ⟨by rfl, rfl⟩) ?_ ?_; rotate_left
           ·exact ccc2_0
           refine pure_ (i := 36) (N := some 49) (v := undef) (a' := ?_) acc2_40 rfl rfl (any_of HT_.out (by kernel_rfl)) (fun _ _ _ h => h) (Or.inr ⟨by rfl, rfl⟩) ?_ ?_; rotate_left
           ·exact ccc2_0
           refine pure_ (i := 37) (N := some 50) (v := undef) (a' := ?_) acc2_42 rfl rfl (any_of HT_.out (by kernel_rfl)) (fun _ _ _ h => h) (Or.inr ⟨by rfl, rfl⟩) ?_ ?_; rotate_left
           ·exact ccc2_0
           refine pure_ (i := 38) (N := some 51) (v := undef) (a' := ?_) acc2_43 rfl rfl (any_of HT_.out (by kernel_rfl)) (fun _ _ _ h => h) (Or.inr ⟨by rfl, rfl⟩) ?_ ?_; rotate_left
           ·exact ccc2_0
           refine pure_ (i := 39) (N := some 52) (v := undef) (a' := ?_) acc2_44 rfl rfl (any_of HT_.out (by kernel_rfl)) (fun _ _ _ h => h) (Or.inr ⟨by rfl, rfl⟩) ?_ ?_; rotate_left
           ·exact ccc2_0
           refine pure_ (i := 40) (N := some 53) (v := undef) (a' := ?_) acc2_45 rfl rfl (any_of HT_.out (by kernel_rfl)) (fun _ _ _ h => h) (Or.inr ⟨by rfl, rfl⟩) ?_ ?_; rotate_left
           ·exact ccc2_0
           refine pure_ (i := 41) (N := some 54) (v := ?_) (a' := ?_) acc2_46 rfl rfl (any_of HT_.out (by kernel_rfl)) (fun _ _ _ h => h) (Or.inl ⟨by rfl, ?_⟩) ?_ ?_; rotate_left
           ·intro w'; go_simp; (with_reducible rfl)
           rotate_left
           ·exact ccc2_0
           refine pure_ (i := 42) (N := some 55) (v := ?_) (a' := ?_) acc2_47 rfl rfl (any_of HT_.out (by kernel_rfl)) (fun _ _ _ h => h) (Or.inl ⟨by rfl, ?_⟩) ?_ ?_; rotate_left
           ·intro w'; go_simp; (with_reducible rfl)
           rotate_left
           ·exact ccc2_0
           refine done_ (done_of HT_.out (by kernel_rfl)) ?_; (try go_wp2)
           go_roundg k1
           case measure => have := HK1.out; omega
           case rel => exact ⟨(wrap64 (x3_1 + 1)), prr1_0, H', ⟨by have := HK1.out; omega⟩, ⟨prr1_4⟩⟩
         ·replace c10 := Bool.eq_false_iff.mpr c10; subst c10; have H1 : (some false) = some r := by rw [if_neg (show ¬ (false = true) by decide)] at H; exact H
          clear H; have H := H1; clear H1; obtain rfl := Option.some.inj H; (try go_wp2); have n0_ := Aside0.mk (below_drew1 HB.out); clear HB; have HB := n0_; clear n0_; have p101 : 0 ≤ (x3_1 : Int) := of_decide_eq_true pcc1_0; have q101 : x3_1 < (l0.length : Int) := of_decide_eq_true pcc1_0; obtain ⟨ad101, e101, hx101_0, hx101_1, hx101_2, hx101_3⟩ := at_T59 HR0.out x3_1 p101 q101; have hw101_3 := hx101_3; have hw101_2 := hx101_2; have hw101_1 := hx101_1; have hw101_0 := hx101_0
          cases e101
          replace hx101_0 := (HB.out.cell (World.block_lt_of_cell? w _ hx101_0)).trans hx101_0; replace hx101_1 := (HB.out.cell (World.block_lt_of_cell? w _ hx101_1)).trans hx101_1; replace hx101_2 := (HB.out.cell (World.block_lt_of_cell? w _ hx101_2)).trans hx101_2; replace hx101_3 := (HB.out.cell (World.block_lt_of_cell? w _ hx101_3)).trans hx101_3; replace p101 := eq_true p101; replace q101 := eq_true q101; have p103 : 0 ≤ (x3_1 : Int) := of_decide_eq_true pcc1_0; have q103 : x3_1 < (l0.length : Int) := of_decide_eq_true pcc1_0; obtain ⟨ad103, e103, hx103_0, hx103_1, hx103_2, hx103_3⟩ := at_T59 HR0.out x3_1 p103 q103; have hw103_3 := hx103_3; have hw103_2 := hx103_2; have hw103_1 := hx103_1; have hw103_0 := hx103_0; obtain rfl : ad101 = ad103 := (by injection e103); replace hx103_0 := (HB.out.cell (World.block_lt_of_cell? w _ hx103_0)).trans hx103_0; replace hx103_1 := (HB.out.cell (World.block_lt_of_cell? w _ hx103_1)).trans hx103_1; replace hx103_2 := (HB.out.cell (World.block_lt_of_cell? w _ hx103_2)).trans hx103_2; replace hx103_3 := (HB.out.cell (World.block_lt_of_cell? w _ hx103_3)).trans hx103_3; replace p103 := eq_true p103; replace q103 := eq_true q103; have p105 : 0 ≤ (x3_1 : Int) := of_decide_eq_true pcc1_0; have q105 : x3_1 < (l0.length : Int) := of_decide_eq_true pcc1_0; obtain ⟨ad105, e105, hx105_0, hx105_1, hx105_2, hx105_3⟩ := at_T59 HR0.out x3_1 p105 q105; have hw105_3 := hx105_3; have hw105_2 := hx105_2; have hw105_1 := hx105_1; have hw105_0 := hx105_0; obtain rfl : ad101 = ad105 := (by injection e105); replace hx105_0 := (HB.out.cell (World.block_lt_of_cell? w _ hx105_0)).trans hx105_0; replace hx105_1 := (HB.out.cell (World.block_lt_of_cell? w _ hx105_1)).trans hx105_1; replace hx105_2 := (HB.out.cell (World.block_lt_of_cell? w _ hx105_2)).trans hx105_2; replace hx105_3 := (HB.out.cell (World.block_lt_of_cell? w _ hx105_3)).trans hx105_3; replace p105 := eq_true p105; replace q105 := eq_true q105; refine start_ (n := 43) (S := fun w' => w'.cell? (ad101.add ((x3_1).toNat * 4)) = some (.string ((rd_T59 l0 x3_1).f0)) ∧ w'.cell? ⟨(ad101.add ((x3_1).toNat * 4)).block, (ad101.add ((x3_1).toNat * 4)).off + 1, none⟩ = some (.string ((rd_T59 l0 x3_1).f1)) ∧ w'.cell? ⟨(ad101.add ((x3_1).toNat * 4)).block, (ad101.add ((x3_1).toNat * 4)).off + 2, none⟩ = some (.int .i64 ((rd_T59 l0 x3_1).f2.f0)) ∧ w'.cell? ⟨(ad101.add ((x3_1).toNat * 4)).block, (ad101.add ((x3_1).toNat * 4)).off + 3, none⟩ = some (.int .i64 ((rd_T59 l0 x3_1).f2.f1)) ∧ w'.cell? (ad101.add ((x3_1).toNat * 4)) = some (.string ((rd_T59 l0 x3_1).f0)) ∧ w'.cell? ⟨(ad101.add ((x3_1).toNat * 4)).block, (ad101.add ((x3_1).toNat * 4)).off + 1, none⟩ = some (.string ((rd_T59 l0 x3_1).f1)) ∧ w'.cell? ⟨(ad101.add ((x3_1).toNat * 4)).block, (ad101.add ((x3_1).toNat * 4)).off + 2, none⟩ = some (.int .i64 ((rd_T59 l0 x3_1).f2.f0)) ∧ w'.cell? ⟨(ad101.add ((x3_1).toNat * 4)).block, (ad101.add ((x3_1).toNat * 4)).off + 3, none⟩ = some (.int .i64 ((rd_T59 l0 x3_1).f2.f1)) ∧ w'.cell? (ad101.add ((x3_1).toNat * 4)) = some (.string ((rd_T59 l0 x3_1).f0)) ∧ w'.cell? ⟨(ad101.add ((x3_1).toNat * 4)).block, (ad101.add ((x3_1).toNat * 4)).off + 1, none⟩ = some (.string ((rd_T59 l0 x3_1).f1)) ∧ w'.cell? ⟨(ad101.add ((x3_1).toNat * 4)).block, (ad101.add ((x3_1).toNat * 4)).off + 2, none⟩ = some (.int .i64 ((rd_T59 l0 x3_1).f2.f0)) ∧ w'.cell? ⟨(ad101.add ((x3_1).toNat * 4)).block, (ad101.add ((x3_1).toNat * 4)).off + 3, none⟩ = some (.int .i64 ((rd_T59 l0 x3_1).f2.f1))) (ds := []) acc2_0 (by kernel_rfl) rfl rfl ⟨((HB.out.cell (World.block_lt_of_cell? w _ hw101_0)).trans hw101_0), ((HB.out.cell (World.block_lt_of_cell? w _ hw101_1)).trans hw101_1), ((HB.out.cell (World.block_lt_of_cell? w _ hw101_2)).trans hw101_2), ((HB.out.cell (World.block_lt_of_cell? w _ hw101_3)).trans hw101_3), ((HB.out.cell (World.block_lt_of_cell? w _ hw103_0)).trans hw103_0), ((HB.out.cell (World.block_lt_of_cell? w _ hw103_1)).trans hw103_1), ((HB.out.cell (World.block_lt_of_cell? w _ hw103_2)).trans hw103_2), ((HB.out.cell (World.block_lt_of_cell? w _ hw103_3)).trans hw103_3), ((HB.out.cell (World.block_lt_of_cell? w _ hw105_0)).trans hw105_0), ((HB.out.cell (World.block_lt_of_cell? w _ hw105_1)).trans hw105_1), ((HB.out.cell (World.block_lt_of_cell? w _ hw105_2)).trans hw105_2), ((HB.out.cell (World.block_lt_of_cell? w _ hw105_3)).trans hw105_3)⟩ (fun hHeld => ?_); refine with_tabW accountingref25_Codes.tab6 accountingref25_Codes.bits6 (fun HT_ HW_ => ?_); generalize wr.drew = w22 at HB hx101_0 hx101_1 hx101_2 hx101_3 hx103_0 hx103_1 hx103_2 hx103_3 hx105_0 hx105_1 hx105_2 hx105_3 hHeld ⊢; refine pure_ (i := 0) (N := some 13) (v := ?_) (a' := ?_) acc2_1 rfl rfl (any_of HT_.out (by kernel_rfl)) (fun _ _ _ h => h) (Or.inl ⟨by rfl, ?_⟩) ?_ ?_; rotate_left
          ·intro w'; go_simp; (with_reducible rfl)
          rotate_left
          ·exact ccc2_0
          refine pure_ (i := 1) (N := some 14) (v := ?_) (a' := ?_) acc2_2 rfl rfl (any_of HT_.out (by kernel_rfl)) (fun _ _ _ h => h) (Or.inl ⟨by rfl, ?_⟩) ?_ ?_; rotate_left
          ·intro w'; go_simp; (with_reducible rfl)
          rotate_left
          ·exact ccc2_0
          refine pure_ (i := 2) (N := some 15) (v := ?_) (a' := ?_) acc2_3 rfl rfl (any_of HT_.out (by kernel_rfl)) (fun _ _ _ h => h) (Or.inl ⟨by rfl, ?_⟩) ?_ ?_; rotate_left
          ·intro w'; go_simp; (with_reducible rfl)
          rotate_left
          ·exact ccc2_0
          refine pure_ (i := 3) (N := some 16) (v := ?_) (a' := ?_) acc2_4 rfl rfl (any_of HT_.out (by kernel_rfl)) (fun _ _ _ h => h) (Or.inl ⟨by rfl, ?_⟩) ?_ ?_; rotate_left
          ·intro w'; go_simp; (with_reducible rfl)
          rotate_left
          ·exact ccc2_0
          refine take_ (i := 4) (N := some 17) (v := ?_) (a' := ?_) acc2_5 rfl rfl (take_ofW HT_.out HW_.out (by kernel_rfl)) (fun _ _ _ h => h) (Or.inl ⟨by rfl, ?_⟩) hHeld ?_ ?_; rotate_left
          ·rintro w' ⟨s0, s1, s2, s3, s4, s5, s6, s7, s8, s9, s10, s11⟩; go_simp; (with_reducible rfl)
          rotate_left
          ·exact ccc2_0
          refine one_ (i := 5) (N := some 18) acc2_6 rfl rfl (one_of HT_.out (by kernel_rfl)) (by decide) (fun K hK => ?_); refine goes_ Try.func29 (by kernel_rfl) rfl #[.string ((rd_T59 l0 x3_1).f0)] (by rfl) rfl rfl prr1_2 ?_; (with_reducible refine (accountingref06_Code.calls k1 ((rd_T59 l0 x3_1).f0) true _ A5.out).mono ?_); rintro e w' ⟨rfl, ⟨nd, rfl⟩⟩; refine ⟨_, rfl, ?_⟩; refine hK.out _ _ ⟨((HB.out.cell (World.block_lt_of_cell? w _ hw101_0)).trans hw101_0), ((HB.out.cell (World.block_lt_of_cell? w _ hw101_1)).trans hw101_1), ((HB.out.cell (World.block_lt_of_cell? w _ hw101_2)).trans hw101_2), ((HB.out.cell (World.block_lt_of_cell? w _ hw101_3)).trans hw101_3), ((HB.out.cell (World.block_lt_of_cell? w _ hw103_0)).trans hw103_0), ((HB.out.cell (World.block_lt_of_cell? w _ hw103_1)).trans hw103_1), ((HB.out.cell (World.block_lt_of_cell? w _ hw103_2)).trans hw103_2), ((HB.out.cell (World.block_lt_of_cell? w _ hw103_3)).trans hw103_3), ((HB.out.cell (World.block_lt_of_cell? w _ hw105_0)).trans hw105_0), ((HB.out.cell (World.block_lt_of_cell? w _ hw105_1)).trans hw105_1), ((HB.out.cell (World.block_lt_of_cell? w _ hw105_2)).trans hw105_2), ((HB.out.cell (World.block_lt_of_cell? w _ hw105_3)).trans hw105_3)⟩ (fun hHeld => ?_); clear hK K; refine norm_ (a' := ?_) ?_ ?_; rotate_left
          ·show Act.put _ (some 18) _ = _; simp only [Act.put, List.setIfInBounds_toArray, List.set_cons_zero, List.set_cons_succ, i64_w, i32_w]
           rfl
          refine pure_ (i := 6) (N := some 19) (v := ?_) (a' := ?_) acc2_7 rfl rfl (any_of HT_.out (by kernel_rfl)) (fun _ _ _ h => h) (Or.inl ⟨by rfl, ?_⟩) ?_ ?_; rotate_left
          ·intro w'; go_simp; (with_reducible rfl)
          rotate_left
          ·exact ccc2_0
          refine pure_ (i := 7) (N := some 20) (v := ?_) (a' := ?_) acc2_8 rfl rfl (any_of HT_.out (by kernel_rfl)) (fun _ _ _ h => h) (Or.inl ⟨by rfl, ?_⟩) ?_ ?_; rotate_left
          ·intro w'; go_simp; (with_reducible rfl)
          rotate_left
          ·exact ccc2_0
          refine pure_ (i := 8) (N := some 21) (v := ?_) (a' := ?_) acc2_9 rfl rfl (any_of HT_.out (by kernel_rfl)) (fun _ _ _ h => h) (Or.inl ⟨by rfl, ?_⟩) ?_ ?_; rotate_left
          ·intro w'; go_simp; (with_reducible rfl)
          rotate_left
          ·exact ccc2_0
          refine pure_ (i := 9) (N := some 22) (v := ?_) (a' := ?_) acc2_10 rfl rfl (any_of HT_.out (by kernel_rfl)) (fun _ _ _ h => h) (Or.inl ⟨by rfl, ?_⟩) ?_ ?_; rotate_left
          ·intro w'; go_simp; (with_reducible rfl)
          rotate_left
          ·exact ccc2_0
          refine pure_ (i := 10) (N := some 23) (v := ?_) (a' := ?_) acc2_11 rfl rfl (any_of HT_.out (by kernel_rfl)) (fun _ _ _ h => h) (Or.inl ⟨by rfl, ?_⟩) ?_ ?_; rotate_left
          ·intro w'; go_simp; (with_reducible rfl)
          rotate_left
          ·exact ccc2_0
          refine pure_ (i := 11) (N := some 24) (v := ?_) (a' := ?_) acc2_12 rfl rfl (any_of HT_.out (by kernel_rfl)) (fun _ _ _ h => h) (Or.inl ⟨by rfl, ?_⟩) ?_ ?_; rotate_left
          ·intro w'; go_simp; (with_reducible rfl)
          rotate_left
          ·exact ccc2_0
          refine take_ (i := 12) (N := some 25) (v := ?_) (a' := ?_) acc2_13 rfl rfl (take_ofW HT_.out HW_.out (by kernel_rfl)) (fun _ _ _ h => h) (Or.inl ⟨by rfl, ?_⟩) hHeld ?_ ?_; rotate_left
          ·rintro w' ⟨s0, s1, s2, s3, s4, s5, s6, s7, s8, s9, s10, s11⟩; go_simp; (with_reducible rfl)
          rotate_left
          ·exact ccc2_0
          refine one_ (i := 13) (N := some 26) acc2_14 rfl rfl (one_of HT_.out (by kernel_rfl)) (by decide) (fun K hK => ?_); refine goes_ Try.func29 (by kernel_rfl) rfl #[.string ((rd_T59 l0 x3_1).f1)] (by rfl) rfl rfl prr1_2 ?_; (with_reducible refine (accountingref06_Code.calls k1 ((rd_T59 l0 x3_1).f1) true _ A7.out).mono ?_); rintro e w' ⟨rfl, ⟨nd, rfl⟩⟩; refine ⟨_, rfl, ?_⟩; refine hK.out _ _ ⟨((HB.out.cell (World.block_lt_of_cell? w _ hw101_0)).trans hw101_0), ((HB.out.cell (World.block_lt_of_cell? w _ hw101_1)).trans hw101_1), ((HB.out.cell (World.block_lt_of_cell? w _ hw101_2)).trans hw101_2), ((HB.out.cell (World.block_lt_of_cell? w _ hw101_3)).trans hw101_3), ((HB.out.cell (World.block_lt_of_cell? w _ hw103_0)).trans hw103_0), ((HB.out.cell (World.block_lt_of_cell? w _ hw103_1)).trans hw103_1), ((HB.out.cell (World.block_lt_of_cell? w _ hw103_2)).trans hw103_2), ((HB.out.cell (World.block_lt_of_cell? w _ hw103_3)).trans hw103_3), ((HB.out.cell (World.block_lt_of_cell? w _ hw105_0)).trans hw105_0), ((HB.out.cell (World.block_lt_of_cell? w _ hw105_1)).trans hw105_1), ((HB.out.cell (World.block_lt_of_cell? w _ hw105_2)).trans hw105_2), ((HB.out.cell (World.block_lt_of_cell? w _ hw105_3)).trans hw105_3)⟩ (fun hHeld => ?_); clear hK K; refine norm_ (a' := ?_) ?_ ?_; rotate_left
          ·show Act.put _ (some 26) _ = _; simp only [Act.put, List.setIfInBounds_toArray, List.set_cons_zero, List.set_cons_succ, i64_w, i32_w]
           rfl
          refine pure_ (i := 14) (N := some 27) (v := ?_) (a' := ?_) acc2_15 rfl rfl (any_of HT_.out (by kernel_rfl)) (fun _ _ _ h => h) (Or.inl ⟨by rfl, ?_⟩) ?_ ?_; rotate_left
          ·intro w'; go_simp; (with_reducible rfl)
          rotate_left
          ·exact ccc2_0
          refine pure_ (i := 15) (N := some 28) (v := ?_) (a' := ?_) acc2_16 rfl rfl (any_of HT_.out (by kernel_rfl)) (fun _ _ _ h => h) (Or.inl ⟨by rfl, ?_⟩) ?_ ?_; rotate_left
          ·intro w'; go_simp; (with_reducible rfl)
          rotate_left
          ·exact ccc2_0
          refine pure_ (i := 16) (N := some 29) (v := ?_) (a' := ?_) acc2_17 rfl rfl (any_of HT_.out (by kernel_rfl)) (fun _ _ _ h => h) (Or.inl ⟨by rfl, ?_⟩) ?_ ?_; rotate_left
          ·intro w'; go_simp; (with_reducible rfl)
          rotate_left
          ·exact ccc2_0
          refine pure_ (i := 17) (N := some 30) (v := ?_) (a' := ?_) acc2_18 rfl rfl (any_of HT_.out (by kernel_rfl)) (fun _ _ _ h => h) (Or.inl ⟨by rfl, ?_⟩) ?_ ?_; rotate_left
          ·intro w'; go_simp; (with_reducible rfl)
          rotate_left
          ·exact ccc2_0
          refine pure_ (i := 18) (N := some 31) (v := ?_) (a' := ?_) acc2_19 rfl rfl (any_of HT_.out (by kernel_rfl)) (fun _ _ _ h => h) (Or.inl ⟨by rfl, ?_⟩) ?_ ?_; rotate_left
          ·intro w'; go_simp; (with_reducible rfl)
          rotate_left
          ·exact ccc2_0
          refine pure_ (i := 19) (N := some 32) (v := ?_) (a' := ?_) acc2_20 rfl rfl (any_of HT_.out (by kernel_rfl)) (fun _ _ _ h => h) (Or.inl ⟨by rfl, ?_⟩) ?_ ?_; rotate_left
          ·intro w'; go_simp; (with_reducible rfl)
          rotate_left
          ·exact ccc2_0
          refine pure_ (i := 20) (N := some 33) (v := ?_) (a' := ?_) acc2_21 rfl rfl (any_of HT_.out (by kernel_rfl)) (fun _ _ _ h => h) (Or.inl ⟨by rfl, ?_⟩) ?_ ?_; rotate_left
          ·intro w'; go_simp; (with_reducible rfl)
          rotate_left
          ·exact ccc2_0
          refine take_ (i := 21) (N := some 34) (v := ?_) (a' := ?_) acc2_22 rfl rfl (take_ofW HT_.out HW_.out (by kernel_rfl)) (fun _ _ _ h => h) (Or.inl ⟨by rfl, ?_⟩) hHeld ?_ ?_; rotate_left
          ·rintro w' ⟨s0, s1, s2, s3, s4, s5, s6, s7, s8, s9, s10, s11⟩; go_simp; (with_reducible rfl)
          rotate_left
          ·exact ccc2_0
          refine one_ (i := 22) (N := some 35) acc2_23 rfl rfl (one_of HT_.out (by kernel_rfl)) (by decide) (fun K hK => ?_); refine goes_ Try.func30 (by kernel_rfl) rfl #[.agg #[.int .i64 ((rd_T59 l0 x3_1).f2.f0), .int .i64 ((rd_T59 l0 x3_1).f2.f1)]] (by rfl) rfl rfl prr1_2 ?_; (with_reducible refine (accountingref25_Rate.calls k1 ((rd_T59 l0 x3_1).f2.f0) ((rd_T59 l0 x3_1).f2.f1) false _ A9.out).mono ?_); rintro e w23 ⟨rfl, hb⟩; refine ⟨_, rfl, ?_⟩; have n0_ := Aside0.mk (below_step prr1_4 hb); clear HB; have HB := n0_; clear n0_; (try clear hb); (try clear hb2); (try clear hk); (try clear hi); refine hK.out _ _ ⟨((HB.out.cell (World.block_lt_of_cell? w _ hw101_0)).trans hw101_0), ((HB.out.cell (World.block_lt_of_cell? w _ hw101_1)).trans hw101_1), ((HB.out.cell (World.block_lt_of_cell? w _ hw101_2)).trans hw101_2), ((HB.out.cell (World.block_lt_of_cell? w _ hw101_3)).trans hw101_3), ((HB.out.cell (World.block_lt_of_cell? w _ hw103_0)).trans hw103_0), ((HB.out.cell (World.block_lt_of_cell? w _ hw103_1)).trans hw103_1), ((HB.out.cell (World.block_lt_of_cell? w _ hw103_2)).trans hw103_2), ((HB.out.cell (World.block_lt_of_cell? w _ hw103_3)).trans hw103_3), ((HB.out.cell (World.block_lt_of_cell? w _ hw105_0)).trans hw105_0), ((HB.out.cell (World.block_lt_of_cell? w _ hw105_1)).trans hw105_1), ((HB.out.cell (World.block_lt_of_cell? w _ hw105_2)).trans hw105_2), ((HB.out.cell (World.block_lt_of_cell? w _ hw105_3)).trans hw105_3)⟩ (fun hHeld => ?_); clear hK K; refine norm_ (a' := ?_) ?_ ?_; rotate_left
          ·show Act.put _ (some 35) _ = _; simp only [Act.put, List.setIfInBounds_toArray, List.set_cons_zero, List.set_cons_succ, i64_w, i32_w]
           rfl
          refine pure_ (i := 23) (N := some 36) (v := ?_) (a' := ?_) acc2_24 rfl rfl (any_of HT_.out (by kernel_rfl)) (fun _ _ _ h => h) (Or.inl ⟨by rfl, ?_⟩) ?_ ?_; rotate_left
          ·intro w'; go_simp; (with_reducible rfl)
          rotate_left
          ·exact ccc2_0
          refine pure_ (i := 24) (N := some 37) (v := ?_) (a' := ?_) acc2_25 rfl rfl (any_of HT_.out (by kernel_rfl)) (fun _ _ _ h => h) (Or.inl ⟨by rfl, ?_⟩) ?_ ?_; rotate_left
          ·intro w'; go_simp; (with_reducible rfl)
          rotate_left
          ·exact ccc2_0
          refine pure_ (i := 25) (N := some 38) (v := ?_) (a' := ?_) acc2_26 rfl rfl (any_of HT_.out (by kernel_rfl)) (fun _ _ _ h => h) (Or.inl ⟨by rfl, ?_⟩) ?_ ?_; rotate_left
          ·intro w'; go_simp; (with_reducible rfl)
          rotate_left
          ·exact ccc2_0
          refine pure_ (i := 26) (N := some 39) (v := undef) (a' := ?_) acc2_27 rfl rfl (any_of HT_.out (by kernel_rfl)) (fun _ _ _ h => h) (Or.inr ⟨by rfl, rfl⟩) ?_ ?_; rotate_left
          ·exact ccc2_0
          refine pure_ (i := 27) (N := some 40) (v := undef) (a' := ?_) acc2_28 rfl rfl (any_of HT_.out (by kernel_rfl)) (fun _ _ _ h => h) (Or.inr ⟨by rfl, rfl⟩) ?_ ?_; rotate_left
          ·exact ccc2_0
          refine pure_ (i := 28) (N := some 41) (v := undef) (a' := ?_) acc2_29 rfl rfl (any_of HT_.out (by kernel_rfl)) (fun _ _ _ h => h) (Or.inr ⟨by rfl, rfl⟩) ?_ ?_; rotate_left
          ·exact ccc2_0
          refine pure_ (i := 29) (N := some 42) (v := undef) (a' := ?_) acc2_30 rfl rfl (any_of HT_.out (by kernel_rfl)) (fun _ _ _ h => h) (Or.inr ⟨by rfl, rfl⟩) ?_ ?_; rotate_left
          ·exact ccc2_0
          refine pure_ (i := 30) (N := some 43) (v := undef) (a' := ?_) acc2_31 rfl rfl (any_of HT_.out (by kernel_rfl)) (fun _ _ _ h => h) (Or.inr ⟨by rfl, rfl⟩) ?_ ?_; rotate_left
          ·exact ccc2_0
          refine pure_ (i := 31) (N := some 44) (v := undef) (a' := ?_) acc2_32 rfl rfl (any_of HT_.out (by kernel_rfl)) (fun _ _ _ h => h) (Or.inr ⟨by rfl, rfl⟩) ?_ ?_; rotate_left
          ·exact ccc2_0
          refine pure_ (i := 32) (N := some 45) (v := undef) (a' := ?_) acc2_33 rfl rfl (any_of HT_.out (by kernel_rfl)) (fun _ _ _ h => h) (Or.inr ⟨by rfl, rfl⟩) ?_ ?_; rotate_left
          ·exact ccc2_0
          refine pure_ (i := 33) (N := some 46) (v := undef) (a' := ?_) acc2_34 rfl rfl (any_of HT_.out (by kernel_rfl)) (fun _ _ _ h => h) (Or.inr ⟨by rfl, rfl⟩) ?_ ?_; rotate_left
          ·exact ccc2_0
          refine pure_ (i := 34) (N := some 47) (v := undef) (a' := ?_) acc2_36 rfl rfl (any_of HT_.out (by kernel_rfl)) (fun _ _ _ h => h) (Or.inr ⟨by rfl, rfl⟩) ?_ ?_; rotate_left
          ·exact ccc2_0
          refine pure_ (i := 35) (N := some 48) (v := undef) (a' := ?_) acc2_38 rfl rfl (any_of HT_.out (by kernel_rfl)) (fun _ _ _ h => h) (Or.inr ⟨by rfl, rfl⟩) ?_ ?_; rotate_left
          ·exact ccc2_0
          refine pure_ (i := 36) (N := some 49) (v := undef) (a' := ?_) acc2_40 rfl rfl (any_of HT_.out (by kernel_rfl)) (fun _ _ _ h => h) (Or.inr ⟨by rfl, rfl⟩) ?_ ?_; rotate_left
          ·exact ccc2_0
          refine pure_ (i := 37) (N := some 50) (v := undef) (a' := ?_) acc2_42 rfl rfl (any_of HT_.out (by kernel_rfl)) (fun _ _ _ h => h) (Or.inr ⟨by rfl, rfl⟩) ?_ ?_; rotate_left
          ·exact ccc2_0
          refine pure_ (i := 38) (N := some 51) (v := undef) (a' := ?_) acc2_43 rfl rfl (any_of HT_.out (by kernel_rfl)) (fun _ _ _ h => h) (Or.inr ⟨by rfl, rfl⟩) ?_ ?_; rotate_left
          ·exact ccc2_0
          refine pure_ (i := 39) (N := some 52) (v := undef) (a' := ?_) acc2_44 rfl rfl (any_of HT_.out (by kernel_rfl)) (fun _ _ _ h => h) (Or.inr ⟨by rfl, rfl⟩) ?_ ?_; rotate_left
          ·exact ccc2_0
          refine pure_ (i := 40) (N := some 53) (v := undef) (a' := ?_) acc2_45 rfl rfl (any_of HT_.out (by kernel_rfl)) (fun _ _ _ h => h) (Or.inr ⟨by rfl, rfl⟩) ?_ ?_; rotate_left
          ·exact ccc2_0
          refine pure_ (i := 41) (N := some 54) (v := undef) (a' := ?_) acc2_46 rfl rfl (any_of HT_.out (by kernel_rfl)) (fun _ _ _ h => h) (Or.inr ⟨by rfl, rfl⟩) ?_ ?_; rotate_left
          ·exact ccc2_0
          refine pure_ (i := 42) (N := some 55) (v := ?_) (a' := ?_) acc2_47 rfl rfl (any_of HT_.out (by kernel_rfl)) (fun _ _ _ h => h) (Or.inl ⟨by rfl, ?_⟩) ?_ ?_; rotate_left
          ·intro w'; go_simp; (with_reducible rfl)
          rotate_left
          ·exact ccc2_0
          refine done_ (done_of HT_.out (by kernel_rfl)) ?_; (try go_wp2)
          go_ret
          exact ⟨prr1_6, prr1_4⟩
        ·replace c8 := Bool.eq_false_iff.mpr c8; subst c8; have H1 : (some false) = some r := by rw [if_neg (show ¬ (false = true) by decide)] at H; exact H
         clear H; have H := H1; clear H1; obtain rfl := Option.some.inj H; (try go_wp2); have n0_ := Aside0.mk (below_drew1 HB.out); clear HB; have HB := n0_; clear n0_; have p101 : 0 ≤ (x3_1 : Int) := of_decide_eq_true pcc1_0; have q101 : x3_1 < (l0.length : Int) := of_decide_eq_true pcc1_0; obtain ⟨ad101, e101, hx101_0, hx101_1, hx101_2, hx101_3⟩ := at_T59 HR0.out x3_1 p101 q101; have hw101_3 := hx101_3; have hw101_2 := hx101_2; have hw101_1 := hx101_1; have hw101_0 := hx101_0
         cases e101
         replace hx101_0 := (HB.out.cell (World.block_lt_of_cell? w _ hx101_0)).trans hx101_0; replace hx101_1 := (HB.out.cell (World.block_lt_of_cell? w _ hx101_1)).trans hx101_1; replace hx101_2 := (HB.out.cell (World.block_lt_of_cell? w _ hx101_2)).trans hx101_2; replace hx101_3 := (HB.out.cell (World.block_lt_of_cell? w _ hx101_3)).trans hx101_3; replace p101 := eq_true p101; replace q101 := eq_true q101; have p103 : 0 ≤ (x3_1 : Int) := of_decide_eq_true pcc1_0; have q103 : x3_1 < (l0.length : Int) := of_decide_eq_true pcc1_0; obtain ⟨ad103, e103, hx103_0, hx103_1, hx103_2, hx103_3⟩ := at_T59 HR0.out x3_1 p103 q103; have hw103_3 := hx103_3; have hw103_2 := hx103_2; have hw103_1 := hx103_1; have hw103_0 := hx103_0; obtain rfl : ad101 = ad103 := (by injection e103); replace hx103_0 := (HB.out.cell (World.block_lt_of_cell? w _ hx103_0)).trans hx103_0; replace hx103_1 := (HB.out.cell (World.block_lt_of_cell? w _ hx103_1)).trans hx103_1; replace hx103_2 := (HB.out.cell (World.block_lt_of_cell? w _ hx103_2)).trans hx103_2; replace hx103_3 := (HB.out.cell (World.block_lt_of_cell? w _ hx103_3)).trans hx103_3; replace p103 := eq_true p103; replace q103 := eq_true q103; refine start_ (n := 43) (S := fun w' => w'.cell? (ad101.add ((x3_1).toNat * 4)) = some (.string ((rd_T59 l0 x3_1).f0)) ∧ w'.cell? ⟨(ad101.add ((x3_1).toNat * 4)).block, (ad101.add ((x3_1).toNat * 4)).off + 1, none⟩ = some (.string ((rd_T59 l0 x3_1).f1)) ∧ w'.cell? ⟨(ad101.add ((x3_1).toNat * 4)).block, (ad101.add ((x3_1).toNat * 4)).off + 2, none⟩ = some (.int .i64 ((rd_T59 l0 x3_1).f2.f0)) ∧ w'.cell? ⟨(ad101.add ((x3_1).toNat * 4)).block, (ad101.add ((x3_1).toNat * 4)).off + 3, none⟩ = some (.int .i64 ((rd_T59 l0 x3_1).f2.f1)) ∧ w'.cell? (ad101.add ((x3_1).toNat * 4)) = some (.string ((rd_T59 l0 x3_1).f0)) ∧ w'.cell? ⟨(ad101.add ((x3_1).toNat * 4)).block, (ad101.add ((x3_1).toNat * 4)).off + 1, none⟩ = some (.string ((rd_T59 l0 x3_1).f1)) ∧ w'.cell? ⟨(ad101.add ((x3_1).toNat * 4)).block, (ad101.add ((x3_1).toNat * 4)).off + 2, none⟩ = some (.int .i64 ((rd_T59 l0 x3_1).f2.f0)) ∧ w'.cell? ⟨(ad101.add ((x3_1).toNat * 4)).block, (ad101.add ((x3_1).toNat * 4)).off + 3, none⟩ = some (.int .i64 ((rd_T59 l0 x3_1).f2.f1))) (ds := []) acc2_0 (by kernel_rfl) rfl rfl ⟨((HB.out.cell (World.block_lt_of_cell? w _ hw101_0)).trans hw101_0), ((HB.out.cell (World.block_lt_of_cell? w _ hw101_1)).trans hw101_1), ((HB.out.cell (World.block_lt_of_cell? w _ hw101_2)).trans hw101_2), ((HB.out.cell (World.block_lt_of_cell? w _ hw101_3)).trans hw101_3), ((HB.out.cell (World.block_lt_of_cell? w _ hw103_0)).trans hw103_0), ((HB.out.cell (World.block_lt_of_cell? w _ hw103_1)).trans hw103_1), ((HB.out.cell (World.block_lt_of_cell? w _ hw103_2)).trans hw103_2), ((HB.out.cell (World.block_lt_of_cell? w _ hw103_3)).trans hw103_3)⟩ (fun hHeld => ?_); refine with_tabW accountingref25_Codes.tab6 accountingref25_Codes.bits6 (fun HT_ HW_ => ?_); generalize wr.drew = w24 at HB hx101_0 hx101_1 hx101_2 hx101_3 hx103_0 hx103_1 hx103_2 hx103_3 hHeld ⊢; refine pure_ (i := 0) (N := some 13) (v := ?_) (a' := ?_) acc2_1 rfl rfl (any_of HT_.out (by kernel_rfl)) (fun _ _ _ h => h) (Or.inl ⟨by rfl, ?_⟩) ?_ ?_; rotate_left
         ·intro w'; go_simp; (with_reducible rfl)
         rotate_left
         ·exact ccc2_0
         refine pure_ (i := 1) (N := some 14) (v := ?_) (a' := ?_) acc2_2 rfl rfl (any_of HT_.out (by kernel_rfl)) (fun _ _ _ h => h) (Or.inl ⟨by rfl, ?_⟩) ?_ ?_; rotate_left
         ·intro w'; go_simp; (with_reducible rfl)
         rotate_left
         ·exact ccc2_0
         refine pure_ (i := 2) (N := some 15) (v := ?_) (a' := ?_) acc2_3 rfl rfl (any_of HT_.out (by kernel_rfl)) (fun _ _ _ h => h) (Or.inl ⟨by rfl, ?_⟩) ?_ ?_; rotate_left
         ·intro w'; go_simp; (with_reducible rfl)
         rotate_left
         ·exact ccc2_0
         refine pure_ (i := 3) (N := some 16) (v := ?_) (a' := ?_) acc2_4 rfl rfl (any_of HT_.out (by kernel_rfl)) (fun _ _ _ h => h) (Or.inl ⟨by rfl, ?_⟩) ?_ ?_; rotate_left
         ·intro w'; go_simp; (with_reducible rfl)
         rotate_left
         ·exact ccc2_0
         refine take_ (i := 4) (N := some 17) (v := ?_) (a' := ?_) acc2_5 rfl rfl (take_ofW HT_.out HW_.out (by kernel_rfl)) (fun _ _ _ h => h) (Or.inl ⟨by rfl, ?_⟩) hHeld ?_ ?_; rotate_left
         ·rintro w' ⟨s0, s1, s2, s3, s4, s5, s6, s7⟩; go_simp; (with_reducible rfl)
         rotate_left
         ·exact ccc2_0
         refine one_ (i := 5) (N := some 18) acc2_6 rfl rfl (one_of HT_.out (by kernel_rfl)) (by decide) (fun K hK => ?_); refine goes_ Try.func29 (by kernel_rfl) rfl #[.string ((rd_T59 l0 x3_1).f0)] (by rfl) rfl rfl prr1_2 ?_; (with_reducible refine (accountingref06_Code.calls k1 ((rd_T59 l0 x3_1).f0) true _ A5.out).mono ?_); rintro e w' ⟨rfl, ⟨nd, rfl⟩⟩; refine ⟨_, rfl, ?_⟩; refine hK.out _ _ ⟨((HB.out.cell (World.block_lt_of_cell? w _ hw101_0)).trans hw101_0), ((HB.out.cell (World.block_lt_of_cell? w _ hw101_1)).trans hw101_1), ((HB.out.cell (World.block_lt_of_cell? w _ hw101_2)).trans hw101_2), ((HB.out.cell (World.block_lt_of_cell? w _ hw101_3)).trans hw101_3), ((HB.out.cell (World.block_lt_of_cell? w _ hw103_0)).trans hw103_0), ((HB.out.cell (World.block_lt_of_cell? w _ hw103_1)).trans hw103_1), ((HB.out.cell (World.block_lt_of_cell? w _ hw103_2)).trans hw103_2), ((HB.out.cell (World.block_lt_of_cell? w _ hw103_3)).trans hw103_3)⟩ (fun hHeld => ?_); clear hK K; refine norm_ (a' := ?_) ?_ ?_; rotate_left
         ·show Act.put _ (some 18) _ = _; simp only [Act.put, List.setIfInBounds_toArray, List.set_cons_zero, List.set_cons_succ, i64_w, i32_w]
          rfl
         refine pure_ (i := 6) (N := some 19) (v := ?_) (a' := ?_) acc2_7 rfl rfl (any_of HT_.out (by kernel_rfl)) (fun _ _ _ h => h) (Or.inl ⟨by rfl, ?_⟩) ?_ ?_; rotate_left
         ·intro w'; go_simp; (with_reducible rfl)
         rotate_left
         ·exact ccc2_0
         refine pure_ (i := 7) (N := some 20) (v := ?_) (a' := ?_) acc2_8 rfl rfl (any_of HT_.out (by kernel_rfl)) (fun _ _ _ h => h) (Or.inl ⟨by rfl, ?_⟩) ?_ ?_; rotate_left
         ·intro w'; go_simp; (with_reducible rfl)
         rotate_left
         ·exact ccc2_0
         refine pure_ (i := 8) (N := some 21) (v := ?_) (a' := ?_) acc2_9 rfl rfl (any_of HT_.out (by kernel_rfl)) (fun _ _ _ h => h) (Or.inl ⟨by rfl, ?_⟩) ?_ ?_; rotate_left
         ·intro w'; go_simp; (with_reducible rfl)
         rotate_left
         ·exact ccc2_0
         refine pure_ (i := 9) (N := some 22) (v := ?_) (a' := ?_) acc2_10 rfl rfl (any_of HT_.out (by kernel_rfl)) (fun _ _ _ h => h) (Or.inl ⟨by rfl, ?_⟩) ?_ ?_; rotate_left
         ·intro w'; go_simp; (with_reducible rfl)
         rotate_left
         ·exact ccc2_0
         refine pure_ (i := 10) (N := some 23) (v := ?_) (a' := ?_) acc2_11 rfl rfl (any_of HT_.out (by kernel_rfl)) (fun _ _ _ h => h) (Or.inl ⟨by rfl, ?_⟩) ?_ ?_; rotate_left
         ·intro w'; go_simp; (with_reducible rfl)
         rotate_left
         ·exact ccc2_0
         refine pure_ (i := 11) (N := some 24) (v := ?_) (a' := ?_) acc2_12 rfl rfl (any_of HT_.out (by kernel_rfl)) (fun _ _ _ h => h) (Or.inl ⟨by rfl, ?_⟩) ?_ ?_; rotate_left
         ·intro w'; go_simp; (with_reducible rfl)
         rotate_left
         ·exact ccc2_0
         refine take_ (i := 12) (N := some 25) (v := ?_) (a' := ?_) acc2_13 rfl rfl (take_ofW HT_.out HW_.out (by kernel_rfl)) (fun _ _ _ h => h) (Or.inl ⟨by rfl, ?_⟩) hHeld ?_ ?_; rotate_left
         ·rintro w' ⟨s0, s1, s2, s3, s4, s5, s6, s7⟩; go_simp; (with_reducible rfl)
         rotate_left
         ·exact ccc2_0
         refine one_ (i := 13) (N := some 26) acc2_14 rfl rfl (one_of HT_.out (by kernel_rfl)) (by decide) (fun K hK => ?_); refine goes_ Try.func29 (by kernel_rfl) rfl #[.string ((rd_T59 l0 x3_1).f1)] (by rfl) rfl rfl prr1_2 ?_; (with_reducible refine (accountingref06_Code.calls k1 ((rd_T59 l0 x3_1).f1) false _ A7.out).mono ?_); rintro e w' ⟨rfl, ⟨nd, rfl⟩⟩; refine ⟨_, rfl, ?_⟩; refine hK.out _ _ ⟨((HB.out.cell (World.block_lt_of_cell? w _ hw101_0)).trans hw101_0), ((HB.out.cell (World.block_lt_of_cell? w _ hw101_1)).trans hw101_1), ((HB.out.cell (World.block_lt_of_cell? w _ hw101_2)).trans hw101_2), ((HB.out.cell (World.block_lt_of_cell? w _ hw101_3)).trans hw101_3), ((HB.out.cell (World.block_lt_of_cell? w _ hw103_0)).trans hw103_0), ((HB.out.cell (World.block_lt_of_cell? w _ hw103_1)).trans hw103_1), ((HB.out.cell (World.block_lt_of_cell? w _ hw103_2)).trans hw103_2), ((HB.out.cell (World.block_lt_of_cell? w _ hw103_3)).trans hw103_3)⟩ (fun hHeld => ?_); clear hK K; refine norm_ (a' := ?_) ?_ ?_; rotate_left
         ·show Act.put _ (some 26) _ = _; simp only [Act.put, List.setIfInBounds_toArray, List.set_cons_zero, List.set_cons_succ, i64_w, i32_w]
          rfl
         refine pure_ (i := 14) (N := some 27) (v := ?_) (a' := ?_) acc2_15 rfl rfl (any_of HT_.out (by kernel_rfl)) (fun _ _ _ h => h) (Or.inl ⟨by rfl, ?_⟩) ?_ ?_; rotate_left
         ·intro w'; go_simp; (with_reducible rfl)
         rotate_left
         ·exact ccc2_0
         refine pure_ (i := 15) (N := some 28) (v := ?_) (a' := ?_) acc2_16 rfl rfl (any_of HT_.out (by kernel_rfl)) (fun _ _ _ h => h) (Or.inl ⟨by rfl, ?_⟩) ?_ ?_; rotate_left
         ·intro w'; go_simp; (with_reducible rfl)
         rotate_left
         ·exact ccc2_0
         refine pure_ (i := 16) (N := some 29) (v := ?_) (a' := ?_) acc2_17 rfl rfl (any_of HT_.out (by kernel_rfl)) (fun _ _ _ h => h) (Or.inl ⟨by rfl, ?_⟩) ?_ ?_; rotate_left
         ·intro w'; go_simp; (with_reducible rfl)
         rotate_left
         ·exact ccc2_0
         refine pure_ (i := 17) (N := some 30) (v := undef) (a' := ?_) acc2_18 rfl rfl (any_of HT_.out (by kernel_rfl)) (fun _ _ _ h => h) (Or.inr ⟨by rfl, rfl⟩) ?_ ?_; rotate_left
         ·exact ccc2_0
         refine pure_ (i := 18) (N := some 31) (v := undef) (a' := ?_) acc2_19 rfl rfl (any_of HT_.out (by kernel_rfl)) (fun _ _ _ h => h) (Or.inr ⟨by rfl, rfl⟩) ?_ ?_; rotate_left
         ·exact ccc2_0
         refine pure_ (i := 19) (N := some 32) (v := undef) (a' := ?_) acc2_20 rfl rfl (any_of HT_.out (by kernel_rfl)) (fun _ _ _ h => h) (Or.inr ⟨by rfl, rfl⟩) ?_ ?_; rotate_left
         ·exact ccc2_0
         refine pure_ (i := 20) (N := some 33) (v := undef) (a' := ?_) acc2_21 rfl rfl (any_of HT_.out (by kernel_rfl)) (fun _ _ _ h => h) (Or.inr ⟨by rfl, rfl⟩) ?_ ?_; rotate_left
         ·exact ccc2_0
         refine pure_ (i := 21) (N := some 34) (v := undef) (a' := ?_) acc2_22 rfl rfl (any_of HT_.out (by kernel_rfl)) (fun _ _ _ h => h) (Or.inr ⟨by rfl, rfl⟩) ?_ ?_; rotate_left
         ·exact ccc2_0
         refine pure_ (i := 22) (N := some 35) (v := undef) (a' := ?_) acc2_23 rfl rfl (any_of HT_.out (by kernel_rfl)) (fun _ _ _ h => h) (Or.inr ⟨by rfl, rfl⟩) ?_ ?_; rotate_left
         ·exact ccc2_0
         refine pure_ (i := 23) (N := some 36) (v := undef) (a' := ?_) acc2_24 rfl rfl (any_of HT_.out (by kernel_rfl)) (fun _ _ _ h => h) (Or.inr ⟨by rfl, rfl⟩) ?_ ?_; rotate_left
         ·exact ccc2_0
         refine pure_ (i := 24) (N := some 37) (v := ?_) (a' := ?_) acc2_25 rfl rfl (any_of HT_.out (by kernel_rfl)) (fun _ _ _ h => h) (Or.inl ⟨by rfl, ?_⟩) ?_ ?_; rotate_left
         ·intro w'; go_simp; (with_reducible rfl)
         rotate_left
         ·exact ccc2_0
         refine pure_ (i := 25) (N := some 38) (v := ?_) (a' := ?_) acc2_26 rfl rfl (any_of HT_.out (by kernel_rfl)) (fun _ _ _ h => h) (Or.inl ⟨by rfl, ?_⟩) ?_ ?_; rotate_left
         ·intro w'; go_simp; (with_reducible rfl)
         rotate_left
         ·exact ccc2_0
         refine pure_ (i := 26) (N := some 39) (v := undef) (a' := ?_) acc2_27 rfl rfl (any_of HT_.out (by kernel_rfl)) (fun _ _ _ h => h) (Or.inr ⟨by rfl, rfl⟩) ?_ ?_; rotate_left
         ·exact ccc2_0
         refine pure_ (i := 27) (N := some 40) (v := undef) (a' := ?_) acc2_28 rfl rfl (any_of HT_.out (by kernel_rfl)) (fun _ _ _ h => h) (Or.inr ⟨by rfl, rfl⟩) ?_ ?_; rotate_left
         ·exact ccc2_0
         refine pure_ (i := 28) (N := some 41) (v := undef) (a' := ?_) acc2_29 rfl rfl (any_of HT_.out (by kernel_rfl)) (fun _ _ _ h => h) (Or.inr ⟨by rfl, rfl⟩) ?_ ?_; rotate_left
         ·exact ccc2_0
         refine pure_ (i := 29) (N := some 42) (v := undef) (a' := ?_) acc2_30 rfl rfl (any_of HT_.out (by kernel_rfl)) (fun _ _ _ h => h) (Or.inr ⟨by rfl, rfl⟩) ?_ ?_; rotate_left
         ·exact ccc2_0
         refine pure_ (i := 30) (N := some 43) (v := undef) (a' := ?_) acc2_31 rfl rfl (any_of HT_.out (by kernel_rfl)) (fun _ _ _ h => h) (Or.inr ⟨by rfl, rfl⟩) ?_ ?_; rotate_left
         ·exact ccc2_0
         refine pure_ (i := 31) (N := some 44) (v := undef) (a' := ?_) acc2_32 rfl rfl (any_of HT_.out (by kernel_rfl)) (fun _ _ _ h => h) (Or.inr ⟨by rfl, rfl⟩) ?_ ?_; rotate_left
         ·exact ccc2_0
         refine pure_ (i := 32) (N := some 45) (v := undef) (a' := ?_) acc2_33 rfl rfl (any_of HT_.out (by kernel_rfl)) (fun _ _ _ h => h) (Or.inr ⟨by rfl, rfl⟩) ?_ ?_; rotate_left
         ·exact ccc2_0
         refine pure_ (i := 33) (N := some 46) (v := undef) (a' := ?_) acc2_34 rfl rfl (any_of HT_.out (by kernel_rfl)) (fun _ _ _ h => h) (Or.inr ⟨by rfl, rfl⟩) ?_ ?_; rotate_left
         ·exact ccc2_0
         refine pure_ (i := 34) (N := some 47) (v := undef) (a' := ?_) acc2_36 rfl rfl (any_of HT_.out (by kernel_rfl)) (fun _ _ _ h => h) (Or.inr ⟨by rfl, rfl⟩) ?_ ?_; rotate_left
         ·exact ccc2_0
         refine pure_ (i := 35) (N := some 48) (v := undef) (a' := ?_) acc2_38 rfl rfl (any_of HT_.out (by kernel_rfl)) (fun _ _ _ h => h) (Or.inr ⟨by rfl, rfl⟩) ?_ ?_; rotate_left
         ·exact ccc2_0
         refine pure_ (i := 36) (N := some 49) (v := undef) (a' := ?_) acc2_40 rfl rfl (any_of HT_.out (by kernel_rfl)) (fun _ _ _ h => h) (Or.inr ⟨by rfl, rfl⟩) ?_ ?_; rotate_left
         ·exact ccc2_0
         refine pure_ (i := 37) (N := some 50) (v := undef) (a' := ?_) acc2_42 rfl rfl (any_of HT_.out (by kernel_rfl)) (fun _ _ _ h => h) (Or.inr ⟨by rfl, rfl⟩) ?_ ?_; rotate_left
         ·exact ccc2_0
         refine pure_ (i := 38) (N := some 51) (v := undef) (a' := ?_) acc2_43 rfl rfl (any_of HT_.out (by kernel_rfl)) (fun _ _ _ h => h) (Or.inr ⟨by rfl, rfl⟩) ?_ ?_; rotate_left
         ·exact ccc2_0
         refine pure_ (i := 39) (N := some 52) (v := undef) (a' := ?_) acc2_44 rfl rfl (any_of HT_.out (by kernel_rfl)) (fun _ _ _ h => h) (Or.inr ⟨by rfl, rfl⟩) ?_ ?_; rotate_left
         ·exact ccc2_0
         refine pure_ (i := 40) (N := some 53) (v := undef) (a' := ?_) acc2_45 rfl rfl (any_of HT_.out (by kernel_rfl)) (fun _ _ _ h => h) (Or.inr ⟨by rfl, rfl⟩) ?_ ?_; rotate_left
         ·exact ccc2_0
         refine pure_ (i := 41) (N := some 54) (v := undef) (a' := ?_) acc2_46 rfl rfl (any_of HT_.out (by kernel_rfl)) (fun _ _ _ h => h) (Or.inr ⟨by rfl, rfl⟩) ?_ ?_; rotate_left
         ·exact ccc2_0
         refine pure_ (i := 42) (N := some 55) (v := ?_) (a' := ?_) acc2_47 rfl rfl (any_of HT_.out (by kernel_rfl)) (fun _ _ _ h => h) (Or.inl ⟨by rfl, ?_⟩) ?_ ?_; rotate_left
         ·intro w'; go_simp; (with_reducible rfl)
         rotate_left
         ·exact ccc2_0
         refine done_ (done_of HT_.out (by kernel_rfl)) ?_; (try go_wp2)
         go_ret
         exact ⟨prr1_6, prr1_4⟩
       ·replace c6 := Bool.eq_false_iff.mpr c6; subst c6; have H1 : (some false) = some r := by rw [if_neg (show ¬ (false = true) by decide)] at H; exact H
        clear H; have H := H1; clear H1; obtain rfl := Option.some.inj H; (try go_wp2); have n0_ := Aside0.mk (below_drew1 HB.out); clear HB; have HB := n0_; clear n0_; have p101 : 0 ≤ (x3_1 : Int) := of_decide_eq_true pcc1_0; have q101 : x3_1 < (l0.length : Int) := of_decide_eq_true pcc1_0; obtain ⟨ad101, e101, hx101_0, hx101_1, hx101_2, hx101_3⟩ := at_T59 HR0.out x3_1 p101 q101; have hw101_3 := hx101_3; have hw101_2 := hx101_2; have hw101_1 := hx101_1; have hw101_0 := hx101_0
        cases e101
        replace hx101_0 := (HB.out.cell (World.block_lt_of_cell? w _ hx101_0)).trans hx101_0; replace hx101_1 := (HB.out.cell (World.block_lt_of_cell? w _ hx101_1)).trans hx101_1; replace hx101_2 := (HB.out.cell (World.block_lt_of_cell? w _ hx101_2)).trans hx101_2; replace hx101_3 := (HB.out.cell (World.block_lt_of_cell? w _ hx101_3)).trans hx101_3; replace p101 := eq_true p101; replace q101 := eq_true q101; refine start_ (n := 43) (S := fun w' => w'.cell? (ad101.add ((x3_1).toNat * 4)) = some (.string ((rd_T59 l0 x3_1).f0)) ∧ w'.cell? ⟨(ad101.add ((x3_1).toNat * 4)).block, (ad101.add ((x3_1).toNat * 4)).off + 1, none⟩ = some (.string ((rd_T59 l0 x3_1).f1)) ∧ w'.cell? ⟨(ad101.add ((x3_1).toNat * 4)).block, (ad101.add ((x3_1).toNat * 4)).off + 2, none⟩ = some (.int .i64 ((rd_T59 l0 x3_1).f2.f0)) ∧ w'.cell? ⟨(ad101.add ((x3_1).toNat * 4)).block, (ad101.add ((x3_1).toNat * 4)).off + 3, none⟩ = some (.int .i64 ((rd_T59 l0 x3_1).f2.f1))) (ds := []) acc2_0 (by kernel_rfl) rfl rfl ⟨((HB.out.cell (World.block_lt_of_cell? w _ hw101_0)).trans hw101_0), ((HB.out.cell (World.block_lt_of_cell? w _ hw101_1)).trans hw101_1), ((HB.out.cell (World.block_lt_of_cell? w _ hw101_2)).trans hw101_2), ((HB.out.cell (World.block_lt_of_cell? w _ hw101_3)).trans hw101_3)⟩ (fun hHeld => ?_); refine with_tabW accountingref25_Codes.tab6 accountingref25_Codes.bits6 (fun HT_ HW_ => ?_); generalize wr.drew = w25 at HB hx101_0 hx101_1 hx101_2 hx101_3 hHeld ⊢; refine pure_ (i := 0) (N := some 13) (v := ?_) (a' := ?_) acc2_1 rfl rfl (any_of HT_.out (by kernel_rfl)) (fun _ _ _ h => h) (Or.inl ⟨by rfl, ?_⟩) ?_ ?_; rotate_left
        ·intro w'; go_simp; (with_reducible rfl)
        rotate_left
        ·exact ccc2_0
        refine pure_ (i := 1) (N := some 14) (v := ?_) (a' := ?_) acc2_2 rfl rfl (any_of HT_.out (by kernel_rfl)) (fun _ _ _ h => h) (Or.inl ⟨by rfl, ?_⟩) ?_ ?_; rotate_left
        ·intro w'; go_simp; (with_reducible rfl)
        rotate_left
        ·exact ccc2_0
        refine pure_ (i := 2) (N := some 15) (v := ?_) (a' := ?_) acc2_3 rfl rfl (any_of HT_.out (by kernel_rfl)) (fun _ _ _ h => h) (Or.inl ⟨by rfl, ?_⟩) ?_ ?_; rotate_left
        ·intro w'; go_simp; (with_reducible rfl)
        rotate_left
        ·exact ccc2_0
        refine pure_ (i := 3) (N := some 16) (v := ?_) (a' := ?_) acc2_4 rfl rfl (any_of HT_.out (by kernel_rfl)) (fun _ _ _ h => h) (Or.inl ⟨by rfl, ?_⟩) ?_ ?_; rotate_left
        ·intro w'; go_simp; (with_reducible rfl)
        rotate_left
        ·exact ccc2_0
        refine take_ (i := 4) (N := some 17) (v := ?_) (a' := ?_) acc2_5 rfl rfl (take_ofW HT_.out HW_.out (by kernel_rfl)) (fun _ _ _ h => h) (Or.inl ⟨by rfl, ?_⟩) hHeld ?_ ?_; rotate_left
        ·rintro w' ⟨s0, s1, s2, s3⟩; go_simp; (with_reducible rfl)
        rotate_left
        ·exact ccc2_0
        refine one_ (i := 5) (N := some 18) acc2_6 rfl rfl (one_of HT_.out (by kernel_rfl)) (by decide) (fun K hK => ?_); refine goes_ Try.func29 (by kernel_rfl) rfl #[.string ((rd_T59 l0 x3_1).f0)] (by rfl) rfl rfl prr1_2 ?_; (with_reducible refine (accountingref06_Code.calls k1 ((rd_T59 l0 x3_1).f0) false _ A5.out).mono ?_); rintro e w' ⟨rfl, ⟨nd, rfl⟩⟩; refine ⟨_, rfl, ?_⟩; refine hK.out _ _ ⟨((HB.out.cell (World.block_lt_of_cell? w _ hw101_0)).trans hw101_0), ((HB.out.cell (World.block_lt_of_cell? w _ hw101_1)).trans hw101_1), ((HB.out.cell (World.block_lt_of_cell? w _ hw101_2)).trans hw101_2), ((HB.out.cell (World.block_lt_of_cell? w _ hw101_3)).trans hw101_3)⟩ (fun hHeld => ?_); clear hK K; refine norm_ (a' := ?_) ?_ ?_; rotate_left
        ·show Act.put _ (some 18) _ = _; simp only [Act.put, List.setIfInBounds_toArray, List.set_cons_zero, List.set_cons_succ, i64_w, i32_w]
         rfl
        refine pure_ (i := 6) (N := some 19) (v := ?_) (a' := ?_) acc2_7 rfl rfl (any_of HT_.out (by kernel_rfl)) (fun _ _ _ h => h) (Or.inl ⟨by rfl, ?_⟩) ?_ ?_; rotate_left
        ·intro w'; go_simp; (with_reducible rfl)
        rotate_left
        ·exact ccc2_0
        refine pure_ (i := 7) (N := some 20) (v := ?_) (a' := ?_) acc2_8 rfl rfl (any_of HT_.out (by kernel_rfl)) (fun _ _ _ h => h) (Or.inl ⟨by rfl, ?_⟩) ?_ ?_; rotate_left
        ·intro w'; go_simp; (with_reducible rfl)
        rotate_left
        ·exact ccc2_0
        refine pure_ (i := 8) (N := some 21) (v := undef) (a' := ?_) acc2_9 rfl rfl (any_of HT_.out (by kernel_rfl)) (fun _ _ _ h => h) (Or.inr ⟨by rfl, rfl⟩) ?_ ?_; rotate_left
        ·exact ccc2_0
        refine pure_ (i := 9) (N := some 22) (v := undef) (a' := ?_) acc2_10 rfl rfl (any_of HT_.out (by kernel_rfl)) (fun _ _ _ h => h) (Or.inr ⟨by rfl, rfl⟩) ?_ ?_; rotate_left
        ·exact ccc2_0
        refine pure_ (i := 10) (N := some 23) (v := undef) (a' := ?_) acc2_11 rfl rfl (any_of HT_.out (by kernel_rfl)) (fun _ _ _ h => h) (Or.inr ⟨by rfl, rfl⟩) ?_ ?_; rotate_left
        ·exact ccc2_0
        refine pure_ (i := 11) (N := some 24) (v := undef) (a' := ?_) acc2_12 rfl rfl (any_of HT_.out (by kernel_rfl)) (fun _ _ _ h => h) (Or.inr ⟨by rfl, rfl⟩) ?_ ?_; rotate_left
        ·exact ccc2_0
        refine pure_ (i := 12) (N := some 25) (v := undef) (a' := ?_) acc2_13 rfl rfl (any_of HT_.out (by kernel_rfl)) (fun _ _ _ h => h) (Or.inr ⟨by rfl, rfl⟩) ?_ ?_; rotate_left
        ·exact ccc2_0
        refine pure_ (i := 13) (N := some 26) (v := undef) (a' := ?_) acc2_14 rfl rfl (any_of HT_.out (by kernel_rfl)) (fun _ _ _ h => h) (Or.inr ⟨by rfl, rfl⟩) ?_ ?_; rotate_left
        ·exact ccc2_0
        refine pure_ (i := 14) (N := some 27) (v := undef) (a' := ?_) acc2_15 rfl rfl (any_of HT_.out (by kernel_rfl)) (fun _ _ _ h => h) (Or.inr ⟨by rfl, rfl⟩) ?_ ?_; rotate_left
        ·exact ccc2_0
        refine pure_ (i := 15) (N := some 28) (v := ?_) (a' := ?_) acc2_16 rfl rfl (any_of HT_.out (by kernel_rfl)) (fun _ _ _ h => h) (Or.inl ⟨by rfl, ?_⟩) ?_ ?_; rotate_left
        ·intro w'; go_simp; (with_reducible rfl)
        rotate_left
        ·exact ccc2_0
        refine pure_ (i := 16) (N := some 29) (v := ?_) (a' := ?_) acc2_17 rfl rfl (any_of HT_.out (by kernel_rfl)) (fun _ _ _ h => h) (Or.inl ⟨by rfl, ?_⟩) ?_ ?_; rotate_left
        ·intro w'; go_simp; (with_reducible rfl)
        rotate_left
        ·exact ccc2_0
        refine pure_ (i := 17) (N := some 30) (v := undef) (a' := ?_) acc2_18 rfl rfl (any_of HT_.out (by kernel_rfl)) (fun _ _ _ h => h) (Or.inr ⟨by rfl, rfl⟩) ?_ ?_; rotate_left
        ·exact ccc2_0
        refine pure_ (i := 18) (N := some 31) (v := undef) (a' := ?_) acc2_19 rfl rfl (any_of HT_.out (by kernel_rfl)) (fun _ _ _ h => h) (Or.inr ⟨by rfl, rfl⟩) ?_ ?_; rotate_left
        ·exact ccc2_0
        refine pure_ (i := 19) (N := some 32) (v := undef) (a' := ?_) acc2_20 rfl rfl (any_of HT_.out (by kernel_rfl)) (fun _ _ _ h => h) (Or.inr ⟨by rfl, rfl⟩) ?_ ?_; rotate_left
        ·exact ccc2_0
        refine pure_ (i := 20) (N := some 33) (v := undef) (a' := ?_) acc2_21 rfl rfl (any_of HT_.out (by kernel_rfl)) (fun _ _ _ h => h) (Or.inr ⟨by rfl, rfl⟩) ?_ ?_; rotate_left
        ·exact ccc2_0
        refine pure_ (i := 21) (N := some 34) (v := undef) (a' := ?_) acc2_22 rfl rfl (any_of HT_.out (by kernel_rfl)) (fun _ _ _ h => h) (Or.inr ⟨by rfl, rfl⟩) ?_ ?_; rotate_left
        ·exact ccc2_0
        refine pure_ (i := 22) (N := some 35) (v := undef) (a' := ?_) acc2_23 rfl rfl (any_of HT_.out (by kernel_rfl)) (fun _ _ _ h => h) (Or.inr ⟨by rfl, rfl⟩) ?_ ?_; rotate_left
        ·exact ccc2_0
        refine pure_ (i := 23) (N := some 36) (v := undef) (a' := ?_) acc2_24 rfl rfl (any_of HT_.out (by kernel_rfl)) (fun _ _ _ h => h) (Or.inr ⟨by rfl, rfl⟩) ?_ ?_; rotate_left
        ·exact ccc2_0
        refine pure_ (i := 24) (N := some 37) (v := ?_) (a' := ?_) acc2_25 rfl rfl (any_of HT_.out (by kernel_rfl)) (fun _ _ _ h => h) (Or.inl ⟨by rfl, ?_⟩) ?_ ?_; rotate_left
        ·intro w'; go_simp; (with_reducible rfl)
        rotate_left
        ·exact ccc2_0
        refine pure_ (i := 25) (N := some 38) (v := ?_) (a' := ?_) acc2_26 rfl rfl (any_of HT_.out (by kernel_rfl)) (fun _ _ _ h => h) (Or.inl ⟨by rfl, ?_⟩) ?_ ?_; rotate_left
        ·intro w'; go_simp; (with_reducible rfl)
        rotate_left
        ·exact ccc2_0
        refine pure_ (i := 26) (N := some 39) (v := undef) (a' := ?_) acc2_27 rfl rfl (any_of HT_.out (by kernel_rfl)) (fun _ _ _ h => h) (Or.inr ⟨by rfl, rfl⟩) ?_ ?_; rotate_left
        ·exact ccc2_0
        refine pure_ (i := 27) (N := some 40) (v := undef) (a' := ?_) acc2_28 rfl rfl (any_of HT_.out (by kernel_rfl)) (fun _ _ _ h => h) (Or.inr ⟨by rfl, rfl⟩) ?_ ?_; rotate_left
        ·exact ccc2_0
        refine pure_ (i := 28) (N := some 41) (v := undef) (a' := ?_) acc2_29 rfl rfl (any_of HT_.out (by kernel_rfl)) (fun _ _ _ h => h) (Or.inr ⟨by rfl, rfl⟩) ?_ ?_; rotate_left
        ·exact ccc2_0
        refine pure_ (i := 29) (N := some 42) (v := undef) (a' := ?_) acc2_30 rfl rfl (any_of HT_.out (by kernel_rfl)) (fun _ _ _ h => h) (Or.inr ⟨by rfl, rfl⟩) ?_ ?_; rotate_left
        ·exact ccc2_0
        refine pure_ (i := 30) (N := some 43) (v := undef) (a' := ?_) acc2_31 rfl rfl (any_of HT_.out (by kernel_rfl)) (fun _ _ _ h => h) (Or.inr ⟨by rfl, rfl⟩) ?_ ?_; rotate_left
        ·exact ccc2_0
        refine pure_ (i := 31) (N := some 44) (v := undef) (a' := ?_) acc2_32 rfl rfl (any_of HT_.out (by kernel_rfl)) (fun _ _ _ h => h) (Or.inr ⟨by rfl, rfl⟩) ?_ ?_; rotate_left
        ·exact ccc2_0
        refine pure_ (i := 32) (N := some 45) (v := undef) (a' := ?_) acc2_33 rfl rfl (any_of HT_.out (by kernel_rfl)) (fun _ _ _ h => h) (Or.inr ⟨by rfl, rfl⟩) ?_ ?_; rotate_left
        ·exact ccc2_0
        refine pure_ (i := 33) (N := some 46) (v := undef) (a' := ?_) acc2_34 rfl rfl (any_of HT_.out (by kernel_rfl)) (fun _ _ _ h => h) (Or.inr ⟨by rfl, rfl⟩) ?_ ?_; rotate_left
        ·exact ccc2_0
        refine pure_ (i := 34) (N := some 47) (v := undef) (a' := ?_) acc2_36 rfl rfl (any_of HT_.out (by kernel_rfl)) (fun _ _ _ h => h) (Or.inr ⟨by rfl, rfl⟩) ?_ ?_; rotate_left
        ·exact ccc2_0
        refine pure_ (i := 35) (N := some 48) (v := undef) (a' := ?_) acc2_38 rfl rfl (any_of HT_.out (by kernel_rfl)) (fun _ _ _ h => h) (Or.inr ⟨by rfl, rfl⟩) ?_ ?_; rotate_left
        ·exact ccc2_0
        refine pure_ (i := 36) (N := some 49) (v := undef) (a' := ?_) acc2_40 rfl rfl (any_of HT_.out (by kernel_rfl)) (fun _ _ _ h => h) (Or.inr ⟨by rfl, rfl⟩) ?_ ?_; rotate_left
        ·exact ccc2_0
        refine pure_ (i := 37) (N := some 50) (v := undef) (a' := ?_) acc2_42 rfl rfl (any_of HT_.out (by kernel_rfl)) (fun _ _ _ h => h) (Or.inr ⟨by rfl, rfl⟩) ?_ ?_; rotate_left
        ·exact ccc2_0
        refine pure_ (i := 38) (N := some 51) (v := undef) (a' := ?_) acc2_43 rfl rfl (any_of HT_.out (by kernel_rfl)) (fun _ _ _ h => h) (Or.inr ⟨by rfl, rfl⟩) ?_ ?_; rotate_left
        ·exact ccc2_0
        refine pure_ (i := 39) (N := some 52) (v := undef) (a' := ?_) acc2_44 rfl rfl (any_of HT_.out (by kernel_rfl)) (fun _ _ _ h => h) (Or.inr ⟨by rfl, rfl⟩) ?_ ?_; rotate_left
        ·exact ccc2_0
        refine pure_ (i := 40) (N := some 53) (v := undef) (a' := ?_) acc2_45 rfl rfl (any_of HT_.out (by kernel_rfl)) (fun _ _ _ h => h) (Or.inr ⟨by rfl, rfl⟩) ?_ ?_; rotate_left
        ·exact ccc2_0
        refine pure_ (i := 41) (N := some 54) (v := undef) (a' := ?_) acc2_46 rfl rfl (any_of HT_.out (by kernel_rfl)) (fun _ _ _ h => h) (Or.inr ⟨by rfl, rfl⟩) ?_ ?_; rotate_left
        ·exact ccc2_0
        refine pure_ (i := 42) (N := some 55) (v := ?_) (a' := ?_) acc2_47 rfl rfl (any_of HT_.out (by kernel_rfl)) (fun _ _ _ h => h) (Or.inl ⟨by rfl, ?_⟩) ?_ ?_; rotate_left
        ·intro w'; go_simp; (with_reducible rfl)
        rotate_left
        ·exact ccc2_0
        refine done_ (done_of HT_.out (by kernel_rfl)) ?_; (try go_wp2)
        go_ret
        exact ⟨prr1_6, prr1_4⟩
      ·rw [if_neg c4] at H; exact absurd H (by simp)
     ·rw [if_neg c3] at H; have c3b0 : decide (x3_1 < (l0.length : Int)) = false := decide_eq_false c3; clear c3; obtain rfl := Option.some.inj H
      go_wp2
      go_ret
      exact ⟨prr1_6, prr1_4⟩
end Go.Proofs.Ytgjpegmhlnabpaa.M
end
