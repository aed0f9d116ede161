/- The law of the entries, walked and shown. Part 2 of 2 of what is the claim's own. -/
import Derived.Test.YtjeecehhcajfaaaDoorQBB2
import Derived.Test.YtjeecehhcajfaaaDoorQOr1
import Derived.Test.YtjeecehhcajfaaaDoorQBB6
import Derived.Test.YtjeecehhcajfaaaDoorQBB5
import Derived.Test.YtjeecehhcajfaaaDoorQBB7
import Derived.Test.YtjeecehhcajfaaaDoorQBB9
import Derived.Test.YtjeecehhcajfaaaDoorRows
import Derived.Test.YtjeecehhcajfaaaDoorQBB1
import Derived.ProofKit
import Derived.LaidMore
import Derived.OpenShut
import Derived.Stop.Joined
import Derived.WalkKit
import Derived.ShutString
import Derived.ChangeOld
import Derived.Below
import Derived.SizedLaws
import Derived.Test.YtjeecehhcajfaaaDoorCards
import Derived.Test.YtjeecehhcajfaaaDoorTie
import Derived.SevenTiedAt
namespace Go.Proofs.YtjeecehhcajfaaaDoor.M
theorem por2_0 {p : Prop} (h : p := by first | exact Kd.R_nil _ _ _ _ _ | exact Kd.N_nil _ _ _ _ _ | exact Kd.V_nil _ _ _ _ _ | exact Kd.Q_nil _ _ _ _ _ | exact Kd.S_nil _ _ _ _ _) : p := h
theorem por2_1 {p : Prop} (h : p := by (with_reducible repeat (first | apply Kd.R_alloc | apply Kd.R_drewN | apply Kd.R_drew)); exact HO_4.out) : p := h
theorem por2_2 {p : Prop} (h : p := by (with_reducible repeat (first | apply Kd.R_alloc | apply Kd.R_drewN | apply Kd.R_drew)); exact HO_5.out) : p := h
theorem por2_3 {p : Prop} (h : p := by repeat (first | exact (Kd.R_reads' HO_4.out).2.2 | (with_reducible refine Kd.C_alloc ?_ _) | (with_reducible refine Kd.C_drewN ?_ _) | (with_reducible refine Kd.C_drew ?_))) : p := h
end Go.Proofs.YtjeecehhcajfaaaDoor.M
section
namespace Go.Proofs.YtjeecehhcajfaaaDoor.M
open Go.RowKit Go.Proofs.YtjeecehhcajfaaaDoorW.PrintWords Go.Proofs.YtjeecehhcajfaaaDoorW.PrintLast Go.Proofs.YtjeecehhcajfaaaDoorW.PrintMore
attribute [local go_sem] max2_int min2_int max_two min_two max_three min_three max_four min_four
set_option linter.unusedVariables false
set_option linter.unusedSimpArgs false
mutual
def F44.j0 : Nat → Bool → Int → ByteArray → Int → Int → Int → ByteArray → ByteArray → Int → List (S24) → Option (Int)
  | 0, _, _, _, _, _, _, _, _, _, _ => none
  | k + 1, x3, x102000, x102001, x102002, x102003, x102004, x102005, x102006, x102007, x102008 => if x3 = true then (some 3) else ((F38.f k x102001).bind fun t102 => (if t102 = true then ((F38.f k x102006).bind fun t103 => (F44.j1 k (!t103) x102000 x102001 x102002 x102003 x102004 x102005 x102006 x102007 x102008)) else (F44.j1 k true x102000 x102001 x102002 x102003 x102004 x102005 x102006 x102007 x102008)))
def F44.j1 : Nat → Bool → Int → ByteArray → Int → Int → Int → ByteArray → ByteArray → Int → List (S24) → Option (Int)
  | 0, _, _, _, _, _, _, _, _, _, _ => none
  | k + 1, x22, x102000, x102001, x102002, x102003, x102004, x102005, x102006, x102007, x102008 => if x22 = true then (some 7) else ((F58.f x102002).bind fun t104 => (if t104 = true then ((F58.f x102003).bind fun t105 => (F44.j2 k (!t105) x102000 x102001 x102002 x102003 x102004 x102005 x102006 x102007 x102008)) else (F44.j2 k true x102000 x102001 x102002 x102003 x102004 x102005 x102006 x102007 x102008)))
def F44.j2 : Nat → Bool → Int → ByteArray → Int → Int → Int → ByteArray → ByteArray → Int → List (S24) → Option (Int)
  | 0, _, _, _, _, _, _, _, _, _, _ => none
  | k + 1, x33, x102000, x102001, x102002, x102003, x102004, x102005, x102006, x102007, x102008 => if x33 = true then (some 11) else (if x102004 < 1 then (F44.j3 k true x102000 x102001 x102002 x102003 x102004 x102005 x102006 x102007 x102008) else (F44.j3 k (decide (x102004 > 7)) x102000 x102001 x102002 x102003 x102004 x102005 x102006 x102007 x102008))
def F44.j3 : Nat → Bool → Int → ByteArray → Int → Int → Int → ByteArray → ByteArray → Int → List (S24) → Option (Int)
  | 0, _, _, _, _, _, _, _, _, _, _ => none
  | k + 1, x44, x102000, x102001, x102002, x102003, x102004, x102005, x102006, x102007, x102008 => if x44 = true then (some 10) else ((F71.f k x102005).bind fun t106 => (if t106 = true then (if (x102008.length : Int) < 2 then (some 2) else (if (x102008.length : Int) > 100 then (some 9) else (some 0))) else (some 5)))
end
def F44.f (k : Nat) (a0_0 : Int) (a0_1 : ByteArray) (a0_2 : Int) (a0_3 : Int) (a0_4 : Int) (a0_5 : ByteArray) (a0_6 : ByteArray) (a0_7 : Int) (l0_8 : List (S24)) : Option (Int) := if a0_0 < 0 then (F44.j0 k true a0_0 a0_1 a0_2 a0_3 a0_4 a0_5 a0_6 a0_7 l0_8) else (if a0_0 > 4000 then (F44.j0 k true a0_0 a0_1 a0_2 a0_3 a0_4 a0_5 a0_6 a0_7 l0_8) else (if a0_7 < 0 then (F44.j0 k true a0_0 a0_1 a0_2 a0_3 a0_4 a0_5 a0_6 a0_7 l0_8) else (F44.j0 k (decide (a0_7 > 4000)) a0_0 a0_1 a0_2 a0_3 a0_4 a0_5 a0_6 a0_7 l0_8)))
set_option maxHeartbeats 8000000 in
set_option maxRecDepth 100000 in
theorem F44.calls (k : Nat) (a0_0 : Int) (a0_1 : ByteArray) (a0_2 : Int) (a0_3 : Int) (a0_4 : Int) (a0_5 : ByteArray) (a0_6 : ByteArray) (a0_7 : Int) (A0_8 : Option Addr) (c0_8 : Nat) (l0_8 : List (S24)) (r : Int) (w : World) (hr0_8 : Kd.C k24 w A0_8 l0_8.length l0_8) (hc0_8 : l0_8.length ≤ c0_8) (h : F44.f k a0_0 a0_1 a0_2 a0_3 a0_4 a0_5 a0_6 a0_7 l0_8 = some r) :
    Calls Tryd.prog 44 #[.agg #[.int .i64 a0_0, .string a0_1, .int .i64 a0_2, .int .i64 a0_3, .int .i64 a0_4, .string a0_5, .string a0_6, .int .i64 a0_7, .slice A0_8 l0_8.length c0_8]] w fun e w' => e = .returned (.int .i64 r) ∧ Below w.heap.size w w' := by
 have hu33 := Tryd.underlying33; have hu3 := Tryd.underlying3; have hu9 := Tryd.underlying9; have hu26 := Tryd.underlying26; have HR0_8 := Aside0.mk hr0_8; have HC0_8 := Aside0.mk hc0_8; clear hr0_8 hc0_8; have HB := Aside0.mk (Below.refl w.heap.size w)
 unfold F44.f at h
 have H := h; clear h; have HC2 := Aside0.mk H; clear H; go_enter Tryd.func44, Tryd.ntmps44
 go_upto_region 1 with (first | ((with_reducible refine gate_dst (N := 1) rfl ?_); refine box_event ?hg (N := 1) ?hd (cs := #[.int .i64 a0_0, .string a0_1, .int .i64 a0_2, .int .i64 a0_3, .int .i64 a0_4, .string a0_5, .string a0_6, .int .i64 a0_7, .slice A0_8 l0_8.length c0_8]) (t := 33) ?hr ?_; (case hd => rfl); (case hg => rfl); (case hr => first | (go_simp; done) | (go_simp; rfl)); intro gb101 hg w3 hbox hb; have BK101 := Aside0.mk (hbox); have GW101 := Aside0.mk ((pbb2_8 : w.heap.size ≤ gb101)); have GE101 := Aside0.mk ((pbb2_8 : w.heap.size ≤ gb101)); replace HB := Aside0.mk (below_step pbb2_9 hb); clear hb hbox hg))
 (try simp only [Act.put, List.setIfInBounds_toArray, List.set_cons_zero, List.set_cons_succ])
 go_cut [3] (fun v3 wc => ∃ (kq : Nat) (x3_1 : Bool), v3 = .bool x3_1 ∧ Aside0 (F44.j0 kq x3_1 a0_0 a0_1 a0_2 a0_3 a0_4 a0_5 a0_6 a0_7 l0_8 = some r) ∧ Aside0 (kq ≤ k) ∧ Aside0 (wc.heap[gb101]? = some (.cells #[.int .i64 a0_0, .string a0_1, .int .i64 a0_2, .int .i64 a0_3, .int .i64 a0_4, .string a0_5, .string a0_6, .int .i64 a0_7, (.slice A0_8 l0_8.length c0_8)] 33 (0, 0))) ∧ Aside0 (Below w.heap.size w wc))
 case first =>
  have H := HC2.out; clear HC2
  by_cases c4 : a0_0 < 0
  ·rw [if_pos c4] at H; have c4b0 := decide_eq_true c4; clear c4; (first | rw [c4b0] | (simp only [i64_w, i32_w]; rw [c4b0]) | skip); have H' := Aside0.mk H; clear H; obtain ⟨hcz5_0, hcz5_1, hcz5_2, hcz5_3, hcz5_4, hcz5_5, hcz5_6, hcz5_7, hcz5_8⟩ := cz9 BK101.out; obtain ⟨hfz5_0, hfz5_1, hfz5_2, hfz5_3, hfz5_4, hfz5_5, hfz5_6, hfz5_7, hfz5_8⟩ := fz9 BK101.out
   go_wp2
   go_meet
   case rel => exact ⟨_, (true), pbb2_3, H', ⟨pbb6_2⟩, ⟨pbb2_12⟩, ⟨pbb2_11⟩⟩
  ·rw [if_neg c4] at H; have c4b0 := decide_eq_false c4; clear c4; (first | rw [c4b0] | (simp only [i64_w, i32_w]; rw [c4b0]) | skip)
   by_cases c6 : a0_0 > 4000
   ·rw [if_pos c6] at H; have c6b0 : decide (4000 < a0_0) = true := decide_eq_true c6; clear c6; have H' := Aside0.mk H; clear H; obtain ⟨hcz7_0, hcz7_1, hcz7_2, hcz7_3, hcz7_4, hcz7_5, hcz7_6, hcz7_7, hcz7_8⟩ := cz9 BK101.out; obtain ⟨hfz7_0, hfz7_1, hfz7_2, hfz7_3, hfz7_4, hfz7_5, hfz7_6, hfz7_7, hfz7_8⟩ := fz9 BK101.out
    go_wp2
    go_meet
    case rel => exact ⟨_, (true), pbb2_3, H', ⟨pbb6_2⟩, ⟨pbb2_12⟩, ⟨pbb2_11⟩⟩
   ·rw [if_neg c6] at H; have c6b0 : decide (4000 < a0_0) = false := decide_eq_false c6; clear c6
    by_cases c8 : a0_7 < 0
    ·rw [if_pos c8] at H; have c8b0 := decide_eq_true c8; clear c8; have H' := Aside0.mk H; clear H; obtain ⟨hcz9_0, hcz9_1, hcz9_2, hcz9_3, hcz9_4, hcz9_5, hcz9_6, hcz9_7, hcz9_8⟩ := cz9 BK101.out; obtain ⟨hfz9_0, hfz9_1, hfz9_2, hfz9_3, hfz9_4, hfz9_5, hfz9_6, hfz9_7, hfz9_8⟩ := fz9 BK101.out
     go_wp2
     go_meet
     case rel => exact ⟨_, (true), pbb2_3, H', ⟨pbb6_2⟩, ⟨pbb2_12⟩, ⟨pbb2_11⟩⟩
    ·rw [if_neg c8] at H; have c8b0 := decide_eq_false c8; clear c8; have H' := Aside0.mk H; clear H; obtain ⟨hcz10_0, hcz10_1, hcz10_2, hcz10_3, hcz10_4, hcz10_5, hcz10_6, hcz10_7, hcz10_8⟩ := cz9 BK101.out; obtain ⟨hfz10_0, hfz10_1, hfz10_2, hfz10_3, hfz10_4, hfz10_5, hfz10_6, hfz10_7, hfz10_8⟩ := fz9 BK101.out
     go_wp2
     go_meet
     case rel => exact ⟨_, (decide (a0_7 > 4000)), pbb2_3, H', ⟨pbb6_2⟩, ⟨pbb2_12⟩, ⟨pbb2_11⟩⟩
 case rest =>
  clear HC2; obtain ⟨kq, x3_1, rfl, HA, HJ1, BK101, HB⟩ := hcut
  cases kq with
  | zero => exact absurd HA.out (by simp [F44.j0])
  | succ kj1 =>
   have H := HA.out; clear HA; simp only [F44.j0] at H
   by_cases c11 : x3_1 = true
   ·subst c11; rw [if_pos rfl] at H; obtain rfl := Option.some.inj H
    go_wp2
    go_ret
    exact ⟨pbb2_18, pbb2_11⟩
   ·replace c11 := Bool.eq_false_iff.mpr c11; subst c11; rw [if_neg (show ¬ (false = true) by decide)] at H; have HC12 := Aside0.mk H; clear H
    go_upto_region 3 with (fail)
    go_cut [22] (fun v22 wc => ∃ (kq : Nat) (x22_11 : Bool), v22 = .bool x22_11 ∧ Aside0 (F44.j1 kq x22_11 a0_0 a0_1 a0_2 a0_3 a0_4 a0_5 a0_6 a0_7 l0_8 = some r) ∧ Aside0 (kq ≤ kj1) ∧ Aside0 (wc.heap[gb101]? = some (.cells #[.int .i64 a0_0, .string a0_1, .int .i64 a0_2, .int .i64 a0_3, .int .i64 a0_4, .string a0_5, .string a0_6, .int .i64 a0_7, (.slice A0_8 l0_8.length c0_8)] 33 (0, 0))) ∧ Aside0 (Below w.heap.size w wc))
    case first =>
     have H := HC12.out; clear HC12; obtain ⟨t102, A130, H⟩ := bnd H; have A13 := Aside0.mk A130; clear A130
     by_cases c14 : t102 = true
     ·subst c14; rw [if_pos rfl] at H; obtain ⟨t103, A150, H⟩ := bnd H; have A15 := Aside0.mk A150; clear A150; have H' := Aside0.mk H; clear H; obtain ⟨hcz16_0, hcz16_1, hcz16_2, hcz16_3, hcz16_4, hcz16_5, hcz16_6, hcz16_7, hcz16_8⟩ := cz9 BK101.out; obtain ⟨hfz16_0, hfz16_1, hfz16_2, hfz16_3, hfz16_4, hfz16_5, hfz16_6, hfz16_7, hfz16_8⟩ := fz9 BK101.out
      go_wp2_with (first | ((with_reducible refine gate_callee (f := 38) rfl ?_); refine goesL_ (some 25) rfl rfl Tryd.func38 (by kernel_rfl) rfl #[.string a0_1] rfl pbb2_5 ?_; (with_reducible refine (F38.calls kj1 a0_1 true _ A13.out).mono ?_); rintro e w' ⟨rfl, ⟨nd, rfl⟩⟩; refine ⟨_, rfl, ?_⟩) | (go_at_call 38; (with_reducible refine (F38.calls kj1 a0_6 t103 _ A15.out).mono ?_); rintro e w' ⟨rfl, ⟨nd, rfl⟩⟩))
      go_meet
      case rel => exact ⟨_, (!t103), pbb2_3, H', ⟨by have := HJ1.out; first | omega | exact Nat.le_refl _⟩, ⟨pbb2_12⟩, ⟨pbb2_11⟩⟩
     ·replace c14 := Bool.eq_false_iff.mpr c14; subst c14; rw [if_neg (show ¬ (false = true) by decide)] at H; have H' := Aside0.mk H; clear H; obtain ⟨hcz17_0, hcz17_1, hcz17_2, hcz17_3, hcz17_4, hcz17_5, hcz17_6, hcz17_7, hcz17_8⟩ := cz9 BK101.out; obtain ⟨hfz17_0, hfz17_1, hfz17_2, hfz17_3, hfz17_4, hfz17_5, hfz17_6, hfz17_7, hfz17_8⟩ := fz9 BK101.out
      go_wp2_with (first | ((with_reducible refine gate_callee (f := 38) rfl ?_); refine goesL_ (some 25) rfl rfl Tryd.func38 (by kernel_rfl) rfl #[.string a0_1] rfl pbb2_5 ?_; (with_reducible refine (F38.calls kj1 a0_1 false _ A13.out).mono ?_); rintro e w' ⟨rfl, ⟨nd, rfl⟩⟩; refine ⟨_, rfl, ?_⟩))
      go_meet
      case rel => exact ⟨_, (true), pbb2_3, H', ⟨by have := HJ1.out; first | omega | exact Nat.le_refl _⟩, ⟨pbb2_12⟩, ⟨pbb2_11⟩⟩
    case rest =>
     clear HC12; obtain ⟨kq, x22_11, rfl, HA, HJ11, BK101, HB⟩ := hcut
     cases kq with
     | zero => exact absurd HA.out (by simp [F44.j1])
     | succ kj11 =>
      have H := HA.out; clear HA; simp only [F44.j1] at H
      by_cases c18 : x22_11 = true
      ·subst c18; rw [if_pos rfl] at H; obtain rfl := Option.some.inj H
       go_wp2
       go_ret
       exact ⟨pbb2_18, pbb2_11⟩
      ·replace c18 := Bool.eq_false_iff.mpr c18; subst c18; rw [if_neg (show ¬ (false = true) by decide)] at H; have HC19 := Aside0.mk H; clear H
       go_upto_region 5 with (fail)
       go_cut [33] (fun v33 wc => ∃ (kq : Nat) (x33_18 : Bool), v33 = .bool x33_18 ∧ Aside0 (F44.j2 kq x33_18 a0_0 a0_1 a0_2 a0_3 a0_4 a0_5 a0_6 a0_7 l0_8 = some r) ∧ Aside0 (kq ≤ kj11) ∧ Aside0 (wc.heap[gb101]? = some (.cells #[.int .i64 a0_0, .string a0_1, .int .i64 a0_2, .int .i64 a0_3, .int .i64 a0_4, .string a0_5, .string a0_6, .int .i64 a0_7, (.slice A0_8 l0_8.length c0_8)] 33 (0, 0))) ∧ Aside0 (Below w.heap.size w wc))
       case first =>
        have H := HC19.out; clear HC19; obtain ⟨t104, A200, H⟩ := bnd H; have A20 := Aside0.mk A200; clear A200
        by_cases c21 : t104 = true
        ·subst c21; rw [if_pos rfl] at H; obtain ⟨t105, A220, H⟩ := bnd H; have A22 := Aside0.mk A220; clear A220; have H' := Aside0.mk H; clear H; obtain ⟨hcz23_0, hcz23_1, hcz23_2, hcz23_3, hcz23_4, hcz23_5, hcz23_6, hcz23_7, hcz23_8⟩ := cz9 BK101.out; obtain ⟨hfz23_0, hfz23_1, hfz23_2, hfz23_3, hfz23_4, hfz23_5, hfz23_6, hfz23_7, hfz23_8⟩ := fz9 BK101.out
         go_wp2_with (first | ((with_reducible refine gate_callee (f := 58) rfl ?_); refine goesL_ (some 36) rfl rfl Tryd.func58 (by kernel_rfl) rfl #[.int .i64 a0_2] rfl pbb2_5 ?_; (with_reducible refine (F58.calls a0_2 true _ A20.out).mono ?_); rintro e w' ⟨rfl, ⟨nd, rfl⟩⟩; refine ⟨_, rfl, ?_⟩) | (go_at_call 58; (with_reducible refine (F58.calls a0_3 t105 _ A22.out).mono ?_); rintro e w' ⟨rfl, ⟨nd, rfl⟩⟩))
         go_meet
         case rel => exact ⟨_, (!t105), pbb2_3, H', ⟨by have := HJ1.out; have := HJ11.out; first | omega | exact Nat.le_refl _⟩, ⟨pbb2_12⟩, ⟨pbb2_11⟩⟩
        ·replace c21 := Bool.eq_false_iff.mpr c21; subst c21; rw [if_neg (show ¬ (false = true) by decide)] at H; have H' := Aside0.mk H; clear H; obtain ⟨hcz24_0, hcz24_1, hcz24_2, hcz24_3, hcz24_4, hcz24_5, hcz24_6, hcz24_7, hcz24_8⟩ := cz9 BK101.out; obtain ⟨hfz24_0, hfz24_1, hfz24_2, hfz24_3, hfz24_4, hfz24_5, hfz24_6, hfz24_7, hfz24_8⟩ := fz9 BK101.out
         go_wp2_with (first | ((with_reducible refine gate_callee (f := 58) rfl ?_); refine goesL_ (some 36) rfl rfl Tryd.func58 (by kernel_rfl) rfl #[.int .i64 a0_2] rfl pbb2_5 ?_; (with_reducible refine (F58.calls a0_2 false _ A20.out).mono ?_); rintro e w' ⟨rfl, ⟨nd, rfl⟩⟩; refine ⟨_, rfl, ?_⟩))
         go_meet
         case rel => exact ⟨_, (true), pbb2_3, H', ⟨by have := HJ1.out; have := HJ11.out; first | omega | exact Nat.le_refl _⟩, ⟨pbb2_12⟩, ⟨pbb2_11⟩⟩
       case rest =>
        clear HC19; obtain ⟨kq, x33_18, rfl, HA, HJ18, BK101, HB⟩ := hcut
        cases kq with
        | zero => exact absurd HA.out (by simp [F44.j2])
        | succ kj18 =>
         have H := HA.out; clear HA; simp only [F44.j2] at H
         by_cases c25 : x33_18 = true
         ·subst c25; rw [if_pos rfl] at H; obtain rfl := Option.some.inj H
          go_wp2
          go_ret
          exact ⟨pbb2_18, pbb2_11⟩
         ·replace c25 := Bool.eq_false_iff.mpr c25; subst c25; rw [if_neg (show ¬ (false = true) by decide)] at H; have HC26 := Aside0.mk H; clear H
          go_upto_region 7 with (fail)
          go_cut [44] (fun v44 wc => ∃ (kq : Nat) (x44_25 : Bool), v44 = .bool x44_25 ∧ Aside0 (F44.j3 kq x44_25 a0_0 a0_1 a0_2 a0_3 a0_4 a0_5 a0_6 a0_7 l0_8 = some r) ∧ Aside0 (kq ≤ kj18) ∧ Aside0 (wc.heap[gb101]? = some (.cells #[.int .i64 a0_0, .string a0_1, .int .i64 a0_2, .int .i64 a0_3, .int .i64 a0_4, .string a0_5, .string a0_6, .int .i64 a0_7, (.slice A0_8 l0_8.length c0_8)] 33 (0, 0))) ∧ Aside0 (Below w.heap.size w wc))
          case first =>
           have H := HC26.out; clear HC26
           by_cases c27 : a0_4 < 1
           ·rw [if_pos c27] at H; have c27b0 := decide_eq_true c27; clear c27; (first | rw [c27b0] | (simp only [i64_w, i32_w]; rw [c27b0]) | skip); have H' := Aside0.mk H; clear H; obtain ⟨hcz28_0, hcz28_1, hcz28_2, hcz28_3, hcz28_4, hcz28_5, hcz28_6, hcz28_7, hcz28_8⟩ := cz9 BK101.out; obtain ⟨hfz28_0, hfz28_1, hfz28_2, hfz28_3, hfz28_4, hfz28_5, hfz28_6, hfz28_7, hfz28_8⟩ := fz9 BK101.out
            go_wp2
            go_meet
            case rel => exact ⟨_, (true), pbb2_3, H', ⟨by have := HJ1.out; have := HJ11.out; have := HJ18.out; first | omega | exact Nat.le_refl _⟩, ⟨pbb2_12⟩, ⟨pbb2_11⟩⟩
           ·rw [if_neg c27] at H; have c27b0 := decide_eq_false c27; clear c27; (first | rw [c27b0] | (simp only [i64_w, i32_w]; rw [c27b0]) | skip); have H' := Aside0.mk H; clear H; obtain ⟨hcz29_0, hcz29_1, hcz29_2, hcz29_3, hcz29_4, hcz29_5, hcz29_6, hcz29_7, hcz29_8⟩ := cz9 BK101.out; obtain ⟨hfz29_0, hfz29_1, hfz29_2, hfz29_3, hfz29_4, hfz29_5, hfz29_6, hfz29_7, hfz29_8⟩ := fz9 BK101.out
            go_wp2
            go_meet
            case rel => exact ⟨_, (decide (a0_4 > 7)), pbb2_3, H', ⟨by have := HJ1.out; have := HJ11.out; have := HJ18.out; first | omega | exact Nat.le_refl _⟩, ⟨pbb2_12⟩, ⟨pbb2_11⟩⟩
          case rest =>
           clear HC26; obtain ⟨kq, x44_25, rfl, HA, HJ25, BK101, HB⟩ := hcut
           cases kq with
           | zero => exact absurd HA.out (by simp [F44.j3])
           | succ kj25 =>
            have H := HA.out; clear HA; simp only [F44.j3] at H
            by_cases c30 : x44_25 = true
            ·subst c30; rw [if_pos rfl] at H; obtain rfl := Option.some.inj H
             go_wp2
             go_ret
             exact ⟨pbb2_18, pbb2_11⟩
            ·replace c30 := Bool.eq_false_iff.mpr c30; subst c30; rw [if_neg (show ¬ (false = true) by decide)] at H; obtain ⟨t106, A310, H⟩ := bnd H; have A31 := Aside0.mk A310; clear A310
             by_cases c32 : t106 = true
             ·subst c32; rw [if_pos rfl] at H
              by_cases c33 : (l0_8.length : Int) < 2
              ·rw [if_pos c33] at H; have c33b0 := decide_eq_true c33; have c33b1 : decide (l0_8.length < 2) = true := decide_eq_true (by omega); clear c33; obtain rfl := Option.some.inj H; obtain ⟨hcz34_0, hcz34_1, hcz34_2, hcz34_3, hcz34_4, hcz34_5, hcz34_6, hcz34_7, hcz34_8⟩ := cz9 BK101.out; obtain ⟨hfz34_0, hfz34_1, hfz34_2, hfz34_3, hfz34_4, hfz34_5, hfz34_6, hfz34_7, hfz34_8⟩ := fz9 BK101.out
               go_wp2_with (first | ((with_reducible refine gate_callee (f := 71) rfl ?_); refine goesL_ (some 56) rfl rfl Tryd.func71 (by kernel_rfl) rfl #[.string a0_5] rfl pbb2_5 ?_; (with_reducible refine (F71.calls kj25 a0_5 true _ A31.out).mono ?_); rintro e w' ⟨rfl, ⟨nd, rfl⟩⟩; refine ⟨_, rfl, ?_⟩))
               go_ret
               exact ⟨pbb2_18, pbb2_11⟩
              ·rw [if_neg c33] at H; have c33b0 := decide_eq_false c33; have c33b1 : decide (l0_8.length < 2) = false := decide_eq_false (by omega); clear c33
               by_cases c35 : (l0_8.length : Int) > 100
               ·rw [if_pos c35] at H; have c35b0 : decide (100 < (l0_8.length : Int)) = true := decide_eq_true c35; have c35b1 : decide (100 < l0_8.length) = true := decide_eq_true (by omega); clear c35; obtain rfl := Option.some.inj H; obtain ⟨hcz36_0, hcz36_1, hcz36_2, hcz36_3, hcz36_4, hcz36_5, hcz36_6, hcz36_7, hcz36_8⟩ := cz9 BK101.out; obtain ⟨hfz36_0, hfz36_1, hfz36_2, hfz36_3, hfz36_4, hfz36_5, hfz36_6, hfz36_7, hfz36_8⟩ := fz9 BK101.out
                go_wp2_with (first | ((with_reducible refine gate_callee (f := 71) rfl ?_); refine goesL_ (some 56) rfl rfl Tryd.func71 (by kernel_rfl) rfl #[.string a0_5] rfl pbb2_5 ?_; (with_reducible refine (F71.calls kj25 a0_5 true _ A31.out).mono ?_); rintro e w' ⟨rfl, ⟨nd, rfl⟩⟩; refine ⟨_, rfl, ?_⟩))
                go_ret
                exact ⟨pbb2_18, pbb2_11⟩
               ·rw [if_neg c35] at H; have c35b0 : decide (100 < (l0_8.length : Int)) = false := decide_eq_false c35; have c35b1 : decide (100 < l0_8.length) = false := decide_eq_false (by omega); clear c35; obtain rfl := Option.some.inj H; obtain ⟨hcz37_0, hcz37_1, hcz37_2, hcz37_3, hcz37_4, hcz37_5, hcz37_6, hcz37_7, hcz37_8⟩ := cz9 BK101.out; obtain ⟨hfz37_0, hfz37_1, hfz37_2, hfz37_3, hfz37_4, hfz37_5, hfz37_6, hfz37_7, hfz37_8⟩ := fz9 BK101.out
                go_wp2_with (first | ((with_reducible refine gate_callee (f := 71) rfl ?_); refine goesL_ (some 56) rfl rfl Tryd.func71 (by kernel_rfl) rfl #[.string a0_5] rfl pbb2_5 ?_; (with_reducible refine (F71.calls kj25 a0_5 true _ A31.out).mono ?_); rintro e w' ⟨rfl, ⟨nd, rfl⟩⟩; refine ⟨_, rfl, ?_⟩))
                go_ret
                exact ⟨pbb2_18, pbb2_11⟩
             ·replace c32 := Bool.eq_false_iff.mpr c32; subst c32; rw [if_neg (show ¬ (false = true) by decide)] at H; obtain rfl := Option.some.inj H; obtain ⟨hcz38_0, hcz38_1, hcz38_2, hcz38_3, hcz38_4, hcz38_5, hcz38_6, hcz38_7, hcz38_8⟩ := cz9 BK101.out; obtain ⟨hfz38_0, hfz38_1, hfz38_2, hfz38_3, hfz38_4, hfz38_5, hfz38_6, hfz38_7, hfz38_8⟩ := fz9 BK101.out
              go_wp2_with (first | ((with_reducible refine gate_callee (f := 71) rfl ?_); refine goesL_ (some 56) rfl rfl Tryd.func71 (by kernel_rfl) rfl #[.string a0_5] rfl pbb2_5 ?_; (with_reducible refine (F71.calls kj25 a0_5 false _ A31.out).mono ?_); rintro e w' ⟨rfl, ⟨nd, rfl⟩⟩; refine ⟨_, rfl, ?_⟩))
              go_ret
              exact ⟨pbb2_18, pbb2_11⟩
def F17.l0 : Nat → Int → Int → ByteArray → Int → Int → Int → ByteArray → ByteArray → Int → List (S24) → Option (Int × Int)
  | 0, _, _, _, _, _, _, _, _, _, _ => none
  | k + 1, x5, x102000, x102001, x102002, x102003, x102004, x102005, x102006, x102007, x102008 => if x5 < (x102008.length : Int) then (if 0 ≤ x5 then ((F15.f k ((rd_T24 x102008 x5).f0) ((rd_T24 x102008 x5).f1) ((rd_T24 x102008 x5).f2) ((rd_T24 x102008 x5).f3) ((rd_T24 x102008 x5).f4) ((rd_T24 x102008 x5).f5) ((rd_T24 x102008 x5).f6)).bind fun t104 => (if t104 = 0 then (F17.l0 k (wrap64 (x5 + 1)) x102000 x102001 x102002 x102003 x102004 x102005 x102006 x102007 x102008) else (some (x5, t104)))) else (none)) else ((F24.f k x102008).bind fun t105 => (if t105 = true then (some ((-1), 0)) else (some ((-1), 15))))
def F17.f (k : Nat) (a0_0 : Int) (a0_1 : ByteArray) (a0_2 : Int) (a0_3 : Int) (a0_4 : Int) (a0_5 : ByteArray) (a0_6 : ByteArray) (a0_7 : Int) (l0_8 : List (S24)) : Option (Int × Int) := (F44.f k a0_0 a0_1 a0_2 a0_3 a0_4 a0_5 a0_6 a0_7 l0_8).bind fun t102 => (if t102 = 0 then (F17.l0 k 0 a0_0 a0_1 a0_2 a0_3 a0_4 a0_5 a0_6 a0_7 l0_8) else (some ((-1), t102)))
set_option maxHeartbeats 8000000 in
set_option maxRecDepth 100000 in
theorem F17.calls (k : Nat) (a0_0 : Int) (a0_1 : ByteArray) (a0_2 : Int) (a0_3 : Int) (a0_4 : Int) (a0_5 : ByteArray) (a0_6 : ByteArray) (a0_7 : Int) (A0_8 : Option Addr) (c0_8 : Nat) (l0_8 : List (S24)) (r1 : Int) (r2 : Int) (w : World) (hr0_8 : Kd.C k24 w A0_8 l0_8.length l0_8) (hc0_8 : l0_8.length ≤ c0_8) (h : F17.f k a0_0 a0_1 a0_2 a0_3 a0_4 a0_5 a0_6 a0_7 l0_8 = some (r1, r2)) :
    Calls Tryd.prog 17 #[.agg #[.int .i64 a0_0, .string a0_1, .int .i64 a0_2, .int .i64 a0_3, .int .i64 a0_4, .string a0_5, .string a0_6, .int .i64 a0_7, .slice A0_8 l0_8.length c0_8]] w fun e w' => e = .returned (.tuple #[.int .i64 r1, .int .i64 r2]) ∧ Below w.heap.size w w' := by
 have hu33 := Tryd.underlying33; have hu26 := Tryd.underlying26; have hu24 := Tryd.underlying24; have HR0_8 := Aside0.mk hr0_8; have HC0_8 := Aside0.mk hc0_8; clear hr0_8 hc0_8; have HB := Aside0.mk (Below.refl w.heap.size w)
 unfold F17.f at h
 have H := h; clear h; obtain ⟨t102, A20, H⟩ := bnd H; have A2 := Aside0.mk A20; clear A20
 by_cases c3 : t102 = 0
 ·rw [if_pos c3] at H; have c3b0 := bT_ c3; have c3b1 := bF_ c3; clear c3; have H' := Aside0.mk H; clear H; go_enter Tryd.func17, Tryd.ntmps17
  go_wp2_with (first | ((with_reducible refine gate_dst (N := 1) rfl ?_); refine box_event ?hg (N := 1) ?hd (cs := #[.int .i64 a0_0, .string a0_1, .int .i64 a0_2, .int .i64 a0_3, .int .i64 a0_4, .string a0_5, .string a0_6, .int .i64 a0_7, .slice A0_8 l0_8.length c0_8]) (t := 33) ?hr ?_; (case hd => rfl); (case hg => rfl); (case hr => first | (go_simp; done) | (go_simp; rfl)); intro gb101 hg w4 hbox hb; have BK101 := Aside0.mk (hbox); have GW101 := Aside0.mk ((pbb2_8 : w.heap.size ≤ gb101)); have GE101 := Aside0.mk ((pbb2_8 : w.heap.size ≤ gb101)); replace HB := Aside0.mk (below_step pbb2_9 hb); clear hb hbox hg; obtain ⟨hcz5_0, hcz5_1, hcz5_2, hcz5_3, hcz5_4, hcz5_5, hcz5_6, hcz5_7, hcz5_8⟩ := cz9 BK101.out; obtain ⟨hfz5_0, hfz5_1, hfz5_2, hfz5_3, hfz5_4, hfz5_5, hfz5_6, hfz5_7, hfz5_8⟩ := fz9 BK101.out) | ((with_reducible refine gate_callee (f := 44) rfl ?_); refine goesL_ (some 8) rfl rfl Tryd.func44 (by kernel_rfl) rfl #[.agg #[.int .i64 a0_0, .string a0_1, .int .i64 a0_2, .int .i64 a0_3, .int .i64 a0_4, .string a0_5, .string a0_6, .int .i64 a0_7, .slice A0_8 l0_8.length c0_8]] rfl pbb2_5 ?_; (with_reducible refine (F44.calls k a0_0 a0_1 a0_2 a0_3 a0_4 a0_5 a0_6 a0_7 _ _ l0_8 t102 _ pbb6_6 (by exact HC0_8.out) A2.out).mono ?_); rintro e w6 ⟨rfl, hb⟩; refine ⟨_, rfl, ?_⟩; replace BK101 := Aside0.mk (blk_below (g := gb101) (o := .cells #[.int .i64 a0_0, .string a0_1, .int .i64 a0_2, .int .i64 a0_3, .int .i64 a0_4, .string a0_5, .string a0_6, .int .i64 a0_7, .slice A0_8 l0_8.length c0_8] 33 (0, 0)) pbb2_12 hb); replace HB := Aside0.mk (below_step pbb2_11 hb); (try clear hb); (try clear hb2); (try clear hk); (try clear hi)))
  (try simp only [Act.put, List.setIfInBounds_toArray, List.set_cons_zero, List.set_cons_succ])
  go_loopg [5] k (fun kq v5 w' => ∃ (x5_1 : Int), v5 = .int .i64 x5_1 ∧ Aside0 (F17.l0 kq x5_1 a0_0 a0_1 a0_2 a0_3 a0_4 a0_5 a0_6 a0_7 l0_8 = some (r1, r2)) ∧ Aside0 (kq ≤ k) ∧ Aside0 (w'.heap[gb101]? = some (.cells #[.int .i64 a0_0, .string a0_1, .int .i64 a0_2, .int .i64 a0_3, .int .i64 a0_4, .string a0_5, .string a0_6, .int .i64 a0_7, (.slice A0_8 l0_8.length c0_8)] 33 (0, 0))) ∧ Aside0 (Below w.heap.size w w'))
  case atStart => exact ⟨(0), pbb2_3, H', ⟨Nat.le_refl _⟩, ⟨pbb2_12⟩, ⟨pbb2_11⟩⟩
  case round =>
   clear H'; obtain ⟨x5_1, rfl, HA, HK1, BK101, HB⟩ := hrel
   cases gk with
   | zero => exact absurd HA.out (by simp [F17.l0])
   | succ k1 =>
    have H := HA.out; clear HA; simp only [F17.l0] at H
    by_cases c7 : x5_1 < (l0_8.length : Int)
    ·rw [if_pos c7] at H; have c7b0 := decide_eq_true c7; clear c7
     by_cases c8 : 0 ≤ x5_1
     ·rw [if_pos c8] at H; have c8b0 := decide_eq_true c8; clear c8; obtain ⟨t104, A90, H⟩ := bnd H; have A9 := Aside0.mk A90; clear A90
      by_cases c10 : t104 = 0
      ·rw [if_pos c10] at H; have c10b0 := bT_ c10; have c10b1 := bF_ c10; clear c10; have H' := Aside0.mk H; clear H; obtain ⟨hcz11_0, hcz11_1, hcz11_2, hcz11_3, hcz11_4, hcz11_5, hcz11_6, hcz11_7, hcz11_8⟩ := cz9 BK101.out; obtain ⟨hfz11_0, hfz11_1, hfz11_2, hfz11_3, hfz11_4, hfz11_5, hfz11_6, hfz11_7, hfz11_8⟩ := fz9 BK101.out; have p103 : 0 ≤ (x5_1 : Int) := of_decide_eq_true pbb2_6; have q103 : x5_1 < (l0_8.length : Int) := of_decide_eq_true pbb2_6; obtain ⟨ad103, A103_6, c103_6, e103, hx103_0, hx103_1, hx103_2, hx103_3, hx103_4, hx103_5, hx103_6, hl103_6, hi103_6⟩ := at_T24 HR0_8.out x5_1 p103 q103
       cases e103
       replace hx103_0 := (HB.out.cell (World.block_lt_of_cell? w _ hx103_0)).trans hx103_0; replace hx103_1 := (HB.out.cell (World.block_lt_of_cell? w _ hx103_1)).trans hx103_1; replace hx103_2 := (HB.out.cell (World.block_lt_of_cell? w _ hx103_2)).trans hx103_2; replace hx103_3 := (HB.out.cell (World.block_lt_of_cell? w _ hx103_3)).trans hx103_3; replace hx103_4 := (HB.out.cell (World.block_lt_of_cell? w _ hx103_4)).trans hx103_4; replace hx103_5 := (HB.out.cell (World.block_lt_of_cell? w _ hx103_5)).trans hx103_5; replace hx103_6 := (HB.out.cell (World.block_lt_of_cell? w _ hx103_6)).trans hx103_6; have HR103_6 := Aside0.mk hi103_6; have HC103_6 := Aside0.mk hl103_6; clear hi103_6 hl103_6; replace p103 := eq_true p103; replace q103 := eq_true q103
       go_wp2_with (first | ((with_reducible refine gate_callee (f := 15) rfl ?_); refine goesL_ (some 24) rfl rfl Tryd.func15 (by kernel_rfl) rfl #[.agg #[.string ((rd_T24 l0_8 x5_1).f0), .string ((rd_T24 l0_8 x5_1).f1), .int .i64 ((rd_T24 l0_8 x5_1).f2), .int .i64 ((rd_T24 l0_8 x5_1).f3), .string ((rd_T24 l0_8 x5_1).f4), .string ((rd_T24 l0_8 x5_1).f5), .slice A103_6 ((rd_T24 l0_8 x5_1).f6).length c103_6]] rfl pbb2_5 ?_; (with_reducible refine (F15.calls k1 ((rd_T24 l0_8 x5_1).f0) ((rd_T24 l0_8 x5_1).f1) ((rd_T24 l0_8 x5_1).f2) ((rd_T24 l0_8 x5_1).f3) ((rd_T24 l0_8 x5_1).f4) ((rd_T24 l0_8 x5_1).f5) _ _ ((rd_T24 l0_8 x5_1).f6) t104 _ (by repeat (first | exact (Kd.C_below HR103_6.out HB.out) | (with_reducible refine Kd.C_alloc ?_ _) | (with_reducible refine Kd.C_drewN ?_ _) | (with_reducible refine Kd.C_drew ?_))) (by exact HC103_6.out) A9.out).mono ?_); rintro e w12 ⟨rfl, hb⟩; refine ⟨_, rfl, ?_⟩; replace BK101 := Aside0.mk (blk_below (g := gb101) (o := .cells #[.int .i64 a0_0, .string a0_1, .int .i64 a0_2, .int .i64 a0_3, .int .i64 a0_4, .string a0_5, .string a0_6, .int .i64 a0_7, .slice (some ad103) l0_8.length c0_8] 33 (0, 0)) pbb2_12 hb); replace HB := Aside0.mk (below_step pbb2_11 hb); (try clear hb); (try clear hb2); (try clear hk); (try clear hi)))
       go_roundg k1
       case measure => have := HK1.out; omega
       case rel => exact ⟨(wrap64 (x5_1 + 1)), pbb2_3, H', ⟨pbb2_7⟩, ⟨pbb2_12⟩, ⟨pbb2_11⟩⟩
      ·rw [if_neg c10] at H; have c10b0 := nF_ c10; have c10b1 := nT_ c10; simp only [Option.some.injEq, Prod.mk.injEq] at H; obtain ⟨rfl, rfl⟩ := H; obtain ⟨hcz13_0, hcz13_1, hcz13_2, hcz13_3, hcz13_4, hcz13_5, hcz13_6, hcz13_7, hcz13_8⟩ := cz9 BK101.out; obtain ⟨hfz13_0, hfz13_1, hfz13_2, hfz13_3, hfz13_4, hfz13_5, hfz13_6, hfz13_7, hfz13_8⟩ := fz9 BK101.out; have p103 : 0 ≤ (x5_1 : Int) := of_decide_eq_true pbb2_6; have q103 : x5_1 < (l0_8.length : Int) := of_decide_eq_true pbb2_6; obtain ⟨ad103, A103_6, c103_6, e103, hx103_0, hx103_1, hx103_2, hx103_3, hx103_4, hx103_5, hx103_6, hl103_6, hi103_6⟩ := at_T24 HR0_8.out x5_1 p103 q103
       cases e103
       replace hx103_0 := (HB.out.cell (World.block_lt_of_cell? w _ hx103_0)).trans hx103_0; replace hx103_1 := (HB.out.cell (World.block_lt_of_cell? w _ hx103_1)).trans hx103_1; replace hx103_2 := (HB.out.cell (World.block_lt_of_cell? w _ hx103_2)).trans hx103_2; replace hx103_3 := (HB.out.cell (World.block_lt_of_cell? w _ hx103_3)).trans hx103_3; replace hx103_4 := (HB.out.cell (World.block_lt_of_cell? w _ hx103_4)).trans hx103_4; replace hx103_5 := (HB.out.cell (World.block_lt_of_cell? w _ hx103_5)).trans hx103_5; replace hx103_6 := (HB.out.cell (World.block_lt_of_cell? w _ hx103_6)).trans hx103_6; have HR103_6 := Aside0.mk hi103_6; have HC103_6 := Aside0.mk hl103_6; clear hi103_6 hl103_6; replace p103 := eq_true p103; replace q103 := eq_true q103
       go_wp2_with (first | ((with_reducible refine gate_callee (f := 15) rfl ?_); refine goesL_ (some 24) rfl rfl Tryd.func15 (by kernel_rfl) rfl #[.agg #[.string ((rd_T24 l0_8 x5_1).f0), .string ((rd_T24 l0_8 x5_1).f1), .int .i64 ((rd_T24 l0_8 x5_1).f2), .int .i64 ((rd_T24 l0_8 x5_1).f3), .string ((rd_T24 l0_8 x5_1).f4), .string ((rd_T24 l0_8 x5_1).f5), .slice A103_6 ((rd_T24 l0_8 x5_1).f6).length c103_6]] rfl pbb2_5 ?_; (with_reducible refine (F15.calls k1 ((rd_T24 l0_8 x5_1).f0) ((rd_T24 l0_8 x5_1).f1) ((rd_T24 l0_8 x5_1).f2) ((rd_T24 l0_8 x5_1).f3) ((rd_T24 l0_8 x5_1).f4) ((rd_T24 l0_8 x5_1).f5) _ _ ((rd_T24 l0_8 x5_1).f6) t104 _ (by repeat (first | exact (Kd.C_below HR103_6.out HB.out) | (with_reducible refine Kd.C_alloc ?_ _) | (with_reducible refine Kd.C_drewN ?_ _) | (with_reducible refine Kd.C_drew ?_))) (by exact HC103_6.out) A9.out).mono ?_); rintro e w14 ⟨rfl, hb⟩; refine ⟨_, rfl, ?_⟩; replace BK101 := Aside0.mk (blk_below (g := gb101) (o := .cells #[.int .i64 a0_0, .string a0_1, .int .i64 a0_2, .int .i64 a0_3, .int .i64 a0_4, .string a0_5, .string a0_6, .int .i64 a0_7, .slice (some ad103) l0_8.length c0_8] 33 (0, 0)) pbb2_12 hb); replace HB := Aside0.mk (below_step pbb2_11 hb); (try clear hb); (try clear hb2); (try clear hk); (try clear hi)))
       go_ret2
       exact ⟨pbb2_18, pbb2_11⟩
     ·rw [if_neg c8] at H; exact absurd H (by simp)
    ·rw [if_neg c7] at H; have c7b0 := decide_eq_false c7; clear c7; obtain ⟨t105, A150, H⟩ := bnd H; have A15 := Aside0.mk A150; clear A150
     by_cases c16 : t105 = true
     ·subst c16; rw [if_pos rfl] at H; simp only [Option.some.injEq, Prod.mk.injEq] at H; obtain ⟨rfl, rfl⟩ := H; obtain ⟨hcz17_0, hcz17_1, hcz17_2, hcz17_3, hcz17_4, hcz17_5, hcz17_6, hcz17_7, hcz17_8⟩ := cz9 BK101.out; obtain ⟨hfz17_0, hfz17_1, hfz17_2, hfz17_3, hfz17_4, hfz17_5, hfz17_6, hfz17_7, hfz17_8⟩ := fz9 BK101.out
      go_wp2_with (first | ((with_reducible refine gate_callee (f := 24) rfl ?_); refine goesL_ (some 31) rfl rfl Tryd.func24 (by kernel_rfl) rfl #[.slice A0_8 l0_8.length c0_8] rfl pbb2_5 ?_; (with_reducible refine (F24.calls k1 _ _ l0_8 true _ pbb6_6 (by exact HC0_8.out) A15.out).mono ?_); rintro e w18 ⟨rfl, hb⟩; refine ⟨_, rfl, ?_⟩; replace BK101 := Aside0.mk (blk_below (g := gb101) (o := .cells #[.int .i64 a0_0, .string a0_1, .int .i64 a0_2, .int .i64 a0_3, .int .i64 a0_4, .string a0_5, .string a0_6, .int .i64 a0_7, .slice A0_8 l0_8.length c0_8] 33 (0, 0)) pbb2_12 hb); replace HB := Aside0.mk (below_step pbb2_11 hb); (try clear hb); (try clear hb2); (try clear hk); (try clear hi)))
      go_ret2
      exact ⟨pbb2_18, pbb2_11⟩
     ·replace c16 := Bool.eq_false_iff.mpr c16; subst c16; rw [if_neg (show ¬ (false = true) by decide)] at H; simp only [Option.some.injEq, Prod.mk.injEq] at H; obtain ⟨rfl, rfl⟩ := H; obtain ⟨hcz19_0, hcz19_1, hcz19_2, hcz19_3, hcz19_4, hcz19_5, hcz19_6, hcz19_7, hcz19_8⟩ := cz9 BK101.out; obtain ⟨hfz19_0, hfz19_1, hfz19_2, hfz19_3, hfz19_4, hfz19_5, hfz19_6, hfz19_7, hfz19_8⟩ := fz9 BK101.out
      go_wp2_with (first | ((with_reducible refine gate_callee (f := 24) rfl ?_); refine goesL_ (some 31) rfl rfl Tryd.func24 (by kernel_rfl) rfl #[.slice A0_8 l0_8.length c0_8] rfl pbb2_5 ?_; (with_reducible refine (F24.calls k1 _ _ l0_8 false _ pbb6_6 (by exact HC0_8.out) A15.out).mono ?_); rintro e w20 ⟨rfl, hb⟩; refine ⟨_, rfl, ?_⟩; replace BK101 := Aside0.mk (blk_below (g := gb101) (o := .cells #[.int .i64 a0_0, .string a0_1, .int .i64 a0_2, .int .i64 a0_3, .int .i64 a0_4, .string a0_5, .string a0_6, .int .i64 a0_7, .slice A0_8 l0_8.length c0_8] 33 (0, 0)) pbb2_12 hb); replace HB := Aside0.mk (below_step pbb2_11 hb); (try clear hb); (try clear hb2); (try clear hk); (try clear hi)))
      go_ret2
      exact ⟨pbb2_18, pbb2_11⟩
 ·rw [if_neg c3] at H; have c3b0 := nF_ c3; have c3b1 := nT_ c3; simp only [Option.some.injEq, Prod.mk.injEq] at H; obtain ⟨rfl, rfl⟩ := H; go_enter Tryd.func17, Tryd.ntmps17
  go_wp2_with (first | ((with_reducible refine gate_dst (N := 1) rfl ?_); refine box_event ?hg (N := 1) ?hd (cs := #[.int .i64 a0_0, .string a0_1, .int .i64 a0_2, .int .i64 a0_3, .int .i64 a0_4, .string a0_5, .string a0_6, .int .i64 a0_7, .slice A0_8 l0_8.length c0_8]) (t := 33) ?hr ?_; (case hd => rfl); (case hg => rfl); (case hr => first | (go_simp; done) | (go_simp; rfl)); intro gb101 hg w21 hbox hb; have BK101 := Aside0.mk (hbox); have GW101 := Aside0.mk ((pbb2_8 : w.heap.size ≤ gb101)); have GE101 := Aside0.mk ((pbb2_8 : w.heap.size ≤ gb101)); replace HB := Aside0.mk (below_step pbb2_9 hb); clear hb hbox hg; obtain ⟨hcz22_0, hcz22_1, hcz22_2, hcz22_3, hcz22_4, hcz22_5, hcz22_6, hcz22_7, hcz22_8⟩ := cz9 BK101.out; obtain ⟨hfz22_0, hfz22_1, hfz22_2, hfz22_3, hfz22_4, hfz22_5, hfz22_6, hfz22_7, hfz22_8⟩ := fz9 BK101.out) | ((with_reducible refine gate_callee (f := 44) rfl ?_); refine goesL_ (some 8) rfl rfl Tryd.func44 (by kernel_rfl) rfl #[.agg #[.int .i64 a0_0, .string a0_1, .int .i64 a0_2, .int .i64 a0_3, .int .i64 a0_4, .string a0_5, .string a0_6, .int .i64 a0_7, .slice A0_8 l0_8.length c0_8]] rfl pbb2_5 ?_; (with_reducible refine (F44.calls k a0_0 a0_1 a0_2 a0_3 a0_4 a0_5 a0_6 a0_7 _ _ l0_8 t102 _ pbb6_6 (by exact HC0_8.out) A2.out).mono ?_); rintro e w23 ⟨rfl, hb⟩; refine ⟨_, rfl, ?_⟩; replace BK101 := Aside0.mk (blk_below (g := gb101) (o := .cells #[.int .i64 a0_0, .string a0_1, .int .i64 a0_2, .int .i64 a0_3, .int .i64 a0_4, .string a0_5, .string a0_6, .int .i64 a0_7, .slice A0_8 l0_8.length c0_8] 33 (0, 0)) pbb2_12 hb); replace HB := Aside0.mk (below_step pbb2_11 hb); (try clear hb); (try clear hb2); (try clear hk); (try clear hi)))
  go_ret2
  exact ⟨pbb2_18, pbb2_11⟩
end Go.Proofs.YtjeecehhcajfaaaDoor.M
end
section
namespace Go.Proofs.YtjeecehhcajfaaaDoor.M
open Go.RowKit Go.Proofs.YtjeecehhcajfaaaDoorW.PrintWords Go.Proofs.YtjeecehhcajfaaaDoorW.PrintLast
set_option linter.unusedVariables false
set_option linter.unusedSimpArgs false
def prn (a : Int) : Bool := decide (32 ≤ a) && decide (a ≤ 126)
def plv (b : ByteArray) : Nat → Nat → Bool
 | 0, _ => true
 | n + 1, i => prn (bt b (i : Int)) && plv b n (i + 1)
def plainv (b : ByteArray) : Bool := plv b b.size 0 && decide ((b.size : Int) ≤ 60)
theorem printable.eq (a : Int) : F80.f a = some (prn a) := by
 unfold F80.f prn
 by_cases c : a ≥ 32
 ·simp [c]
 ·have c2 : ¬ 32 ≤ a := c
  simp [c2]
theorem every.go (b : ByteArray) (hb : b.size ≤ 1000) : ∀ n i, i + n = b.size → Ev (fun k => F62b.l0 k b (b.size : Int) (i : Int)) (plv b n i)
 | 0, i, h => by
  refine Ev.succ ?_; simp only [F62b.l0, if_neg (show ¬ (i : Int) < (b.size : Int) by omega), plv]; exact Ev.const _
 | n + 1, i, h => by
  have ih := every.go b hb n (i + 1) (by omega); refine Ev.succ ?_; simp only [F62b.l0, if_pos (show (i : Int) < (b.size : Int) by omega), if_pos (show (0 : Int) ≤ (i : Int) by omega), printable.eq, Option.bind_some, plv, w64s (show i ≤ 1000000000 by omega)]
  cases prn (bt b (i : Int)) with
  | true => simp only [if_true, Bool.true_and]; exact ih
  | false => simp only [Bool.false_eq_true, if_false, Bool.false_and]; exact Ev.const _
theorem F70.eq (b : ByteArray) : Ev (fun k => F70.f k b) (plainv b) := by
 unfold F70.f plainv
 by_cases c : (b.size : Int) ≤ 60
 ·simp only [if_pos c, decide_eq_true c, Bool.and_true]
  unfold F62b.f
  exact Ev.bind (every.go b (by omega) b.size 0 (by omega)) (Ev.const _)
 ·simp only [if_neg c, decide_eq_false c, Bool.and_false]; exact Ev.const _
theorem refPlain.go (b : ByteArray) (hb : b.size ≤ 1000000000000000) : ∀ n i, i + n = b.size → Ev (fun k => F71.l0 k b (i : Int)) (plv b n i && decide ((b.size : Int) ≤ 60))
 | 0, i, h => by
  refine Ev.succ ?_; simp only [F71.l0, if_neg (show ¬ (i : Int) < (b.size : Int) by omega), plv, Bool.true_and]; exact Ev.const _
 | n + 1, i, h => by
  have ih := refPlain.go b hb n (i + 1) (by omega); refine Ev.succ ?_; simp only [F71.l0, if_pos (show (i : Int) < (b.size : Int) by omega), if_pos (show (0 : Int) ≤ (i : Int) by omega), plv]; rw [w64 (n := (i : Int) + 1) (by omega) (by omega), show (i : Int) + 1 = ((i + 1 : Nat) : Int) by omega]
  unfold prn
  by_cases c1 : bt b (i : Int) < 32
  ·simp only [if_pos c1, decide_eq_false (show ¬ 32 ≤ bt b (i : Int) by omega), Bool.false_and]; exact Ev.const _
  ·simp only [if_neg c1, decide_eq_true (show 32 ≤ bt b (i : Int) by omega), Bool.true_and]
   by_cases c2 : bt b (i : Int) > 126
   ·simp only [if_pos c2, decide_eq_false (show ¬ bt b (i : Int) ≤ 126 by omega), Bool.false_and]; exact Ev.const _
   ·simp only [if_neg c2, decide_eq_true (show bt b (i : Int) ≤ 126 by omega), Bool.true_and]; exact ih
theorem refPlain.eq (b : ByteArray) (hb : b.size ≤ 1000000000000000) : Ev (fun k => F71.f k b) (plainv b) := by
 unfold F71.f plainv
 exact refPlain.go b hb b.size 0 (by omega)
theorem isDay.eq (n : Int) : Ev (fun k => F57.f k n months) (dayv n) := by
 obtain ⟨y, a, b, h⟩ := F77.ok n
 unfold F57.f
 refine Ev.bind h ?_
 cases dayv n with
 | true => simp only [if_true]; exact Ev.const _
 | false => simp only [Bool.false_eq_true, if_false]; exact Ev.const _
theorem refDay.eq (n : Int) : F58.f n = some (dayv n) := by
 unfold F58.f dayv
 by_cases c : n ≥ 0
 ·rw [if_pos c]
  by_cases c2 : n ≤ 109572
  ·rw [decide_eq_true c2, decide_eq_true ⟨c, c2⟩]
  ·rw [decide_eq_false c2, decide_eq_false (fun h => c2 h.2)]
 ·rw [if_neg c, decide_eq_false (fun h => c h.1)]
def okH (x : En) : Prop := x.f1.size ≤ 1000000000000000 ∧ x.f5.size ≤ 1000000000000000 ∧ x.f6.size ≤ 1000000000000000
def hd3 (x : En) (b : Bool) : Int := if b = true then 10 else if plainv x.f5 = true then (if (x.f8.length : Int) < 2 then 2 else if (x.f8.length : Int) > 100 then 9 else 0) else 5
def hd2 (x : En) (b : Bool) : Int := if b = true then 11 else hd3 x (decide (x.f4 < 1) || decide (x.f4 > 7))
def hd1 (x : En) (b : Bool) : Int := if b = true then 7 else hd2 x (!(dayv x.f2 && dayv x.f3))
def hd0 (x : En) (b : Bool) : Int := if b = true then 3 else hd1 x (!(codev x.f1 && codev x.f6))
def headv (x : En) : Int := hd0 x (decide (x.f0 < 0) || (decide (x.f0 > 4000) || (decide (x.f7 < 0) || decide (x.f7 > 4000))))
theorem head.j3 (x : En) (b : Bool) : Ev (fun k => F43.j3 k b x.f0 x.f1 x.f2 x.f3 x.f4 x.f5 x.f6 x.f7 x.f8) (hd3 x b) := by
 refine Ev.succ ?_; simp only [F43.j3]
 unfold hd3
 cases b with
 | true => simp only [if_true]; exact Ev.const _
 | false =>
  simp only [Bool.false_eq_true, if_false]; refine Ev.bind (F70.eq x.f5) ?_
  cases plainv x.f5 with
  | true =>
   simp only [if_true]
   by_cases c1 : (x.f8.length : Int) < 2
   ·simp only [if_pos c1]; exact Ev.const _
   ·by_cases c2 : (x.f8.length : Int) > 100
    ·simp only [if_neg c1, if_pos c2]; exact Ev.const _
    ·simp only [if_neg c1, if_neg c2]; exact Ev.const _
  | false => simp only [Bool.false_eq_true, if_false]; exact Ev.const _
theorem head.j2 (x : En) (b : Bool) : Ev (fun k => F43.j2 k b x.f0 x.f1 x.f2 x.f3 x.f4 x.f5 x.f6 x.f7 x.f8) (hd2 x b) := by
 refine Ev.succ ?_; simp only [F43.j2]
 unfold hd2
 cases b with
 | true => simp only [if_true]; exact Ev.const _
 | false =>
  simp only [Bool.false_eq_true, if_false]
  by_cases c : x.f4 < 1
  ·simp only [if_pos c, decide_eq_true c, Bool.true_or]; exact head.j3 x true
  ·simp only [if_neg c, decide_eq_false c, Bool.false_or]; exact head.j3 x _
theorem head.j1 (x : En) (b : Bool) : Ev (fun k => F43.j1 k b months x.f0 x.f1 x.f2 x.f3 x.f4 x.f5 x.f6 x.f7 x.f8) (hd1 x b) := by
 refine Ev.succ ?_; simp only [F43.j1]
 unfold hd1
 cases b with
 | true => simp only [if_true]; exact Ev.const _
 | false =>
  simp only [Bool.false_eq_true, if_false]; refine Ev.bind (isDay.eq x.f2) ?_
  cases dayv x.f2 with
  | false => simp only [Bool.false_eq_true, if_false, Bool.false_and, Bool.not_false]; exact head.j2 x true
  | true =>
   simp only [if_true, Bool.true_and]; exact Ev.bind (isDay.eq x.f3) (head.j2 x _)
theorem head.j0 (x : En) (hx : okH x) (b : Bool) : Ev (fun k => F43.j0 k b months x.f0 x.f1 x.f2 x.f3 x.f4 x.f5 x.f6 x.f7 x.f8) (hd0 x b) := by
 refine Ev.succ ?_; simp only [F43.j0]
 unfold hd0
 cases b with
 | true => simp only [if_true]; exact Ev.const _
 | false =>
  simp only [Bool.false_eq_true, if_false]; refine Ev.bind (F33.eq x.f1) ?_
  cases codev x.f1 with
  | false => simp only [Bool.false_eq_true, if_false, Bool.false_and, Bool.not_false]; exact head.j1 x true
  | true =>
   simp only [if_true, Bool.true_and]; exact Ev.bind (F33.eq x.f6) (head.j1 x _)
theorem F43.eq (x : En) (hx : okH x) : Ev (fun k => F43.f k x.f0 x.f1 x.f2 x.f3 x.f4 x.f5 x.f6 x.f7 x.f8 months) (headv x) := by
 unfold F43.f headv
 by_cases c1 : x.f0 < 0
 ·simp only [if_pos c1, decide_eq_true c1, Bool.true_or]; exact head.j0 x hx true
 by_cases c2 : x.f0 > 4000
 ·simp only [if_neg c1, if_pos c2, decide_eq_false c1, decide_eq_true c2, Bool.false_or, Bool.true_or]; exact head.j0 x hx true
 by_cases c3 : x.f7 < 0
 ·simp only [if_neg c1, if_neg c2, if_pos c3, decide_eq_false c1, decide_eq_false c2, decide_eq_true c3, Bool.false_or, Bool.true_or]; exact head.j0 x hx true
 simp only [if_neg c1, if_neg c2, if_neg c3, decide_eq_false c1, decide_eq_false c2, decide_eq_false c3, Bool.false_or]; exact head.j0 x hx _
theorem rhead.j3 (x : En) (hx : okH x) (b : Bool) : Ev (fun k => F44.j3 k b x.f0 x.f1 x.f2 x.f3 x.f4 x.f5 x.f6 x.f7 x.f8) (hd3 x b) := by
 refine Ev.succ ?_; simp only [F44.j3]
 unfold hd3
 cases b with
 | true => simp only [if_true]; exact Ev.const _
 | false =>
  simp only [Bool.false_eq_true, if_false]; refine Ev.bind (refPlain.eq x.f5 hx.2.1) ?_
  cases plainv x.f5 with
  | true =>
   simp only [if_true]
   by_cases c1 : (x.f8.length : Int) < 2
   ·simp only [if_pos c1]; exact Ev.const _
   ·by_cases c2 : (x.f8.length : Int) > 100
    ·simp only [if_neg c1, if_pos c2]; exact Ev.const _
    ·simp only [if_neg c1, if_neg c2]; exact Ev.const _
  | false => simp only [Bool.false_eq_true, if_false]; exact Ev.const _
theorem rhead.j2 (x : En) (hx : okH x) (b : Bool) : Ev (fun k => F44.j2 k b x.f0 x.f1 x.f2 x.f3 x.f4 x.f5 x.f6 x.f7 x.f8) (hd2 x b) := by
 refine Ev.succ ?_; simp only [F44.j2]
 unfold hd2
 cases b with
 | true => simp only [if_true]; exact Ev.const _
 | false =>
  simp only [Bool.false_eq_true, if_false]
  by_cases c : x.f4 < 1
  ·simp only [if_pos c, decide_eq_true c, Bool.true_or]; exact rhead.j3 x hx true
  ·simp only [if_neg c, decide_eq_false c, Bool.false_or]; exact rhead.j3 x hx _
theorem rhead.j1 (x : En) (hx : okH x) (b : Bool) : Ev (fun k => F44.j1 k b x.f0 x.f1 x.f2 x.f3 x.f4 x.f5 x.f6 x.f7 x.f8) (hd1 x b) := by
 refine Ev.succ ?_; simp only [F44.j1]
 unfold hd1
 cases b with
 | true => simp only [if_true]; exact Ev.const _
 | false =>
  simp only [Bool.false_eq_true, if_false]; simp only [refDay.eq, Option.bind_some]
  cases dayv x.f2 with
  | false => simp only [Bool.false_eq_true, if_false, Bool.false_and, Bool.not_false]; exact rhead.j2 x hx true
  | true =>
   simp only [if_true, Bool.true_and]; exact rhead.j2 x hx _
theorem rhead.j0 (x : En) (hx : okH x) (b : Bool) : Ev (fun k => F44.j0 k b x.f0 x.f1 x.f2 x.f3 x.f4 x.f5 x.f6 x.f7 x.f8) (hd0 x b) := by
 refine Ev.succ ?_; simp only [F44.j0]
 unfold hd0
 cases b with
 | true => simp only [if_true]; exact Ev.const _
 | false =>
  simp only [Bool.false_eq_true, if_false]; refine Ev.bind (F38.eq x.f1 hx.1) ?_
  cases codev x.f1 with
  | false => simp only [Bool.false_eq_true, if_false, Bool.false_and, Bool.not_false]; exact rhead.j1 x hx true
  | true =>
   simp only [if_true, Bool.true_and]; exact Ev.bind (F38.eq x.f6 hx.2.2) (rhead.j1 x hx _)
theorem F44.eq (x : En) (hx : okH x) : Ev (fun k => F44.f k x.f0 x.f1 x.f2 x.f3 x.f4 x.f5 x.f6 x.f7 x.f8) (headv x) := by
 unfold F44.f headv
 by_cases c1 : x.f0 < 0
 ·simp only [if_pos c1, decide_eq_true c1, Bool.true_or]; exact rhead.j0 x hx true
 by_cases c2 : x.f0 > 4000
 ·simp only [if_neg c1, if_pos c2, decide_eq_false c1, decide_eq_true c2, Bool.false_or, Bool.true_or]; exact rhead.j0 x hx true
 by_cases c3 : x.f7 < 0
 ·simp only [if_neg c1, if_neg c2, if_pos c3, decide_eq_false c1, decide_eq_false c2, decide_eq_true c3, Bool.false_or, Bool.true_or]; exact rhead.j0 x hx true
 simp only [if_neg c1, if_neg c2, if_neg c3, decide_eq_false c1, decide_eq_false c2, decide_eq_false c3, Bool.false_or]; exact rhead.j0 x hx _
def chk (l : List Li) (bal : Bool) : Nat → Nat → Int × Int
 | 0, _ => if bal = true then (-1, 0) else (-1, 15)
 | n + 1, i => if linev (rd_T24 l (i : Int)) = 0 then chk l bal n (i + 1) else ((i : Int), linev (rd_T24 l (i : Int)))
def checkv (x : En) : Int × Int := if headv x = 0 then chk x.f8 (balv x.f8) x.f8.length 0 else (-1, headv x)
theorem check.go (l : List Li) (h : okA l) (hl : ∀ z ∈ l, okL z) (a0 : Int) (a1 : ByteArray) (a2 a3 a4 : Int) (a5 a6 : ByteArray) (a7 : Int) : ∀ n i, i + n = l.length → Ev (fun k => F16.l0 k l (l.length : Int) (i : Int) a0 a1 a2 a3 a4 a5 a6 a7 l) (chk l (balv l) n i)
 | 0, i, hi => by
  refine Ev.succ ?_; simp only [F16.l0, if_neg (show ¬ (i : Int) < (l.length : Int) by omega), F23.eq l h, Option.bind_some, chk]
  cases balv l with
  | true => simp only [if_true]; exact Ev.const _
  | false => simp only [Bool.false_eq_true, if_false]; exact Ev.const _
 | n + 1, i, hi => by
  have ih := check.go l h hl a0 a1 a2 a3 a4 a5 a6 a7 n (i + 1) (by omega); have hn := h.1; refine Ev.succ ?_; simp only [F16.l0, if_pos (show (i : Int) < (l.length : Int) by omega), if_pos (show (0 : Int) ≤ (i : Int) by omega), chk, w64s (show i ≤ 1000000000 by omega)]; refine Ev.bind (F14.eq _ (hl _ (rd24_mem (by omega)))) ?_
  by_cases c : linev (rd_T24 l (i : Int)) = 0
  ·simp only [if_pos c]; exact ih
  ·simp only [if_neg c]; exact Ev.const _
theorem F16.eq (x : En) (hx : okH x) (h : okA x.f8) (hl : ∀ z ∈ x.f8, okL z) : Ev (fun k => F16.f k x.f0 x.f1 x.f2 x.f3 x.f4 x.f5 x.f6 x.f7 x.f8 months) (checkv x) := by
 unfold F16.f checkv
 refine Ev.bind (F43.eq x hx) ?_
 by_cases c : headv x = 0
 ·simp only [if_pos c]; exact check.go x.f8 h hl _ _ _ _ _ _ _ _ x.f8.length 0 (by omega)
 ·simp only [if_neg c]; exact Ev.const _
theorem refCheck.go (l : List Li) (h : okA l) (hl : ∀ z ∈ l, okL z) (a0 : Int) (a1 : ByteArray) (a2 a3 a4 : Int) (a5 a6 : ByteArray) (a7 : Int) : ∀ n i, i + n = l.length → Ev (fun k => F17.l0 k (i : Int) a0 a1 a2 a3 a4 a5 a6 a7 l) (chk l (balv l) n i)
 | 0, i, hi => by
  refine Ev.succ ?_; simp only [F17.l0, if_neg (show ¬ (i : Int) < (l.length : Int) by omega), chk]; refine Ev.bind (refBal.eq l h) ?_
  cases balv l with
  | true => simp only [if_true]; exact Ev.const _
  | false => simp only [Bool.false_eq_true, if_false]; exact Ev.const _
 | n + 1, i, hi => by
  have ih := refCheck.go l h hl a0 a1 a2 a3 a4 a5 a6 a7 n (i + 1) (by omega); have hn := h.1; refine Ev.succ ?_; simp only [F17.l0, if_pos (show (i : Int) < (l.length : Int) by omega), if_pos (show (0 : Int) ≤ (i : Int) by omega), chk, w64s (show i ≤ 1000000000 by omega)]; refine Ev.bind (F15.eq _ (hl _ (rd24_mem (by omega)))) ?_
  by_cases c : linev (rd_T24 l (i : Int)) = 0
  ·simp only [if_pos c]; exact ih
  ·simp only [if_neg c]; exact Ev.const _
theorem refCheck.eq (x : En) (hx : okH x) (h : okA x.f8) (hl : ∀ z ∈ x.f8, okL z) : Ev (fun k => F17.f k x.f0 x.f1 x.f2 x.f3 x.f4 x.f5 x.f6 x.f7 x.f8) (checkv x) := by
 unfold F17.f checkv
 refine Ev.bind (F44.eq x hx) ?_
 by_cases c : headv x = 0
 ·simp only [if_pos c]; exact refCheck.go x.f8 h hl _ _ _ _ _ _ _ _ x.f8.length 0 (by omega)
 ·simp only [if_neg c]; exact Ev.const _
theorem G33_ok {x : En} (h : G33 x) : okH x := by
 obtain ⟨_, h1, _, _, _, h5, h6, _, _⟩ := h; exact ⟨by omega, by omega, by omega⟩
theorem lit_in {x : Int} (h : (Lit.int .i64 x).wf = true) : inW x := by
 unfold inW
 simp [Lit.wf, IntKind.min, IntKind.max, IntKind.bits, IntKind.signed] at h
 omega
theorem G24_okA {l : List Li} (h : ∀ z ∈ l, G24 z) (hl : l.length ≤ 150) : okA l := by
 refine ⟨by omega, fun z hz => ?_⟩; obtain ⟨_, _, h2, h3, _⟩ := h z hz; exact ⟨lit_in h2, lit_in h3⟩
theorem lit_inW {x : Int} (h : (Lit.int .i64 x).wf = true) : inW x := by
 unfold inW
 simp [Lit.wf, IntKind.min, IntKind.max, IntKind.bits, IntKind.signed] at h
 omega
theorem G24_okA2 {l : List Li} (h : ∀ z ∈ l, G24 z) (hl : l.length ≤ 150) : okA l := by
 refine ⟨by omega, fun z hz => ?_⟩; obtain ⟨_, _, h2, h3, _⟩ := h z hz; exact ⟨lit_inW h2, lit_inW h3⟩
abbrev Sm := S61
def fitS (a : Int) : Prop := -1000000000000000 ≤ a ∧ a ≤ 1000000000000000
instance (x : Int) : Decidable (fitS x) := by unfold fitS; infer_instance
def sumsV (l : List Li) : List ByteArray → List Sm → List Sm × Int
 | [], out => (out, 0)
 | c :: r, out => if fitS (amtsOf curKey l c).sum ∧ fitS (basesOf curKey l c).sum then sumsV l r (out ++ [⟨c, (amtsOf curKey l c).sum, (basesOf curKey l c).sum⟩]) else ([], 4)
def sumsv (l : List Li) : List Sm × Int := sumsV l (cursOf l) []
theorem find_col {κ : Type} [DecidableEq κ] {key : Li → κ} {l : List Li} {k : κ} (h : ∃ x ∈ l, key x = k) : ∃ q, (colsOf key l).find? (fun q => decide (q.1 = k)) = some q ∧ q.2.1 = amtsOf key l k ∧ q.2.2 = basesOf key l k := by
 have hi := colsOf_inv key l
 cases hf : (colsOf key l).find? (fun q => decide (q.1 = k)) with
 | none =>
  obtain ⟨q, hq, e⟩ := List.mem_map.1 ((hi.2 k).2 h); have := List.find?_eq_none.1 hf q hq
  simp [e] at this
 | some q =>
  have hk : q.1 = k := by simpa using List.find?_some hf
  have := hi.1 q (List.mem_of_find?_eq_some hf); rw [hk] at this; exact ⟨q, rfl, this.1, this.2⟩
theorem sumsL_eq (l : List Li) (h : okA l) : ∀ (C : List ByteArray) (out : List Sm), (∀ c ∈ C, ∃ x ∈ l, curKey x = c) → sumsL (colsOf curKey l) C out = some (sumsV l C out)
 | [], out, _ => rfl
 | c :: C, out, hC => by
  obtain ⟨q, hq, h1, h2⟩ := find_col (hC c List.mem_cons_self); obtain ⟨b1, b2, b3, b4⟩ := amts_in curKey h c; have ih := fun o => sumsL_eq l h C o (fun d hd => hC d (List.mem_cons_of_mem _ hd)); simp only [sumsL, hq, h1, h2, bothf.eq 1000000000000000 (by omega) (by omega) _ _ b1 b2 b3 b4, Option.bind_some, sumsV]
  by_cases e : fitS (amtsOf curKey l c).sum ∧ fitS (basesOf curKey l c).sum
  ·have e2 := e
   unfold fitS at e2
   simp only [if_pos e, if_pos e2, if_true]; exact ih _
  ·have e2 := e
   unfold fitS at e2
   simp only [if_neg e, if_neg e2]
   rfl
theorem F18.eq (l : List Li) (h : okA l) : F18.f l = some (sumsv l) := by
 unfold F18.f sumsv
 rw [if_pos h.1, cursOf_keys]; exact sumsL_eq l h _ _ (fun c hc => (cursOf_mem l c).1 hc)
end Go.Proofs.YtjeecehhcajfaaaDoor.M
end
section
namespace Go.Proofs.YtjeecehhcajfaaaDoor.M
open Go.RowKit Go.Proofs.YtjeecehhcajfaaaDoorW.PrintWords Go.Proofs.YtjeecehhcajfaaaDoorW.PrintLast Go.Proofs.YtjeecehhcajfaaaDoorW.PrintMore
attribute [local go_sem] max2_int min2_int max_two min_two max_three min_three max_four min_four
set_option linter.unusedVariables false
set_option linter.unusedSimpArgs false
def F19.l0 : Nat → List (S24) → List (S61) → List ByteArray → Int → Option ((List (S61)) × Int)
  | 0, _, _, _, _ => none
  | k + 1, x0, x4, x5, x6 => if x6 < (x5.length : Int) then (if 0 ≤ x6 then ((F50.f k x0 (rdOf ByteArray.empty x5 x6)).bind fun bt105 => (if bt105.2.2 = true then ((F41.f bt105.1 1000000000000000).bind fun t108 => (if t108 = true then ((F41.f bt105.2.1 1000000000000000).bind fun t109 => (if t109 = true then (if x4.length < 4398046511104 then (F19.l0 k x0 (x4 ++ [(⟨rdOf ByteArray.empty x5 x6, bt105.1, bt105.2.1⟩ : S61)]) x5 (wrap64 (x6 + 1))) else (none)) else (some (([] : List (S61)), 4)))) else (some (([] : List (S61)), 4)))) else (some (([] : List (S61)), 4)))) else (none)) else (some (x4, 0))
def F19.f (k : Nat) (l0 : List (S24)) : Option ((List (S61)) × Int) := (F49.f l0).bind fun t101 => (F19.l0 k l0 ([] : List (S61)) t101 0)
set_option maxHeartbeats 8000000 in
set_option maxRecDepth 100000 in
theorem F19.calls (k : Nat) (A0 : Option Addr) (c0 : Nat) (l0 : List (S24)) (r1 : List (S61)) (r2 : Int) (w : World) (hr0 : Kd.C k24 w A0 l0.length l0) (hc0 : l0.length ≤ c0) (h : F19.f k l0 = some (r1, r2)) :
    Calls Tryd.prog 19 #[.slice A0 l0.length c0] w fun e w' => ∃ v0_ : Value, e = .returned (.tuple #[v0_, .int .i64 r2]) ∧ Kd.R k61 61 w' w.heap.size (fun _ => True) v0_ r1 ∧ Below w.heap.size w w' := by
 have hu9 := Tryd.underlying9; have hu61 := Tryd.underlying61; have HR0 := Aside0.mk hr0; have HC0 := Aside0.mk hc0; clear hr0 hc0; have HB := Aside0.mk (Below.refl w.heap.size w)
 unfold F19.f at h
 have H := h; clear h; obtain ⟨t101, A20, H⟩ := bnd H; have A2 := Aside0.mk A20; clear A20; have H' := Aside0.mk H; clear H; go_enter Tryd.func19, Tryd.ntmps19
 go_wp2_with (first | ((with_reducible refine gate_callee (f := 49) rfl ?_); refine goesL_ (some 11) rfl rfl Tryd.func49 (by kernel_rfl) rfl #[.slice A0 l0.length c0] rfl pbb2_5 ?_; (with_reducible refine (F49.calls _ _ l0 t101 _ (by repeat (first | exact HR0.out | (with_reducible refine Kd.C_alloc ?_ _) | (with_reducible refine Kd.C_drewN ?_ _) | (with_reducible refine Kd.C_drew ?_))) HC0.out A2.out).mono ?_); rintro e w3 ⟨v102, rfl, ho0, hb⟩; refine ⟨_, rfl, ?_⟩; have HO103 := Aside0.mk (Kd.R_lower ho0 (below_size pbb2_9)); replace HB := Aside0.mk (below_step pbb2_9 hb); (try clear hb); (try clear hb2); (try clear hk); (try clear hi); (try clear ho0)))
 (try simp only [Act.put, List.setIfInBounds_toArray, List.set_cons_zero, List.set_cons_succ])
 go_loopg [4, 6] k (fun kq v4 v6 w' => ∃ (x4_1 : List (S61)) (x6_1 : Int), v6 = .int .i64 x6_1 ∧ Aside0 (F19.l0 kq l0 x4_1 t101 x6_1 = some (r1, r2)) ∧ Aside0 (kq ≤ k) ∧ Aside0 (Kd.R k61 61 w' w.heap.size (fun _ => True) v4 x4_1) ∧ Aside0 (Kd.R Kd.string 9 w' w.heap.size (fun _ => True) v102 t101) ∧ Aside0 (Below w.heap.size w w'))
 case atStart => exact ⟨(([] : List (S61))), (0), pbb2_3, H', ⟨Nat.le_refl _⟩, ⟨por2_0⟩, ⟨by (with_reducible repeat (first | apply Kd.R_alloc | apply Kd.R_drewN | apply Kd.R_drew)); exact HO103.out⟩, ⟨pbb2_9⟩⟩
 case round =>
  clear H'; obtain ⟨x4_1, x6_1, rfl, HA, HK1, HO_4, HO_5, HB⟩ := hrel
  cases gk with
  | zero => exact absurd HA.out (by simp [F19.l0])
  | succ k1 =>
   have H := HA.out; clear HA; simp only [F19.l0] at H
   by_cases c4 : x6_1 < (t101.length : Int)
   ·rw [if_pos c4] at H; have c4b0 := decide_eq_true c4; clear c4
    by_cases c5 : 0 ≤ x6_1
    ·rw [if_pos c5] at H; have c5b0 := decide_eq_true c5; clear c5; obtain ⟨⟨t105, t106, t107⟩, A60, H⟩ := bnd H; (try dsimp only at H); have A6 := Aside0.mk A60; clear A60
     by_cases c7 : t107 = true
     ·subst c7; rw [if_pos rfl] at H; obtain ⟨t108, A80, H⟩ := bnd H; have A8 := Aside0.mk A80; clear A80
      by_cases c9 : t108 = true
      ·subst c9; rw [if_pos rfl] at H; obtain ⟨t109, A100, H⟩ := bnd H; have A10 := Aside0.mk A100; clear A100
       by_cases c11 : t109 = true
       ·subst c11; rw [if_pos rfl] at H
        by_cases c12 : x4_1.length < 4398046511104
        ·rw [if_pos c12] at H; have LMc12 := Aside0.mk c12; clear c12; obtain ⟨y111, hy111⟩ : ∃ y_ : List (S61), y_ = (x4_1 ++ [(⟨rdOf ByteArray.empty t101 x6_1, t105, t106⟩ : S61)]) := ⟨_, rfl⟩; replace H : (F19.l0 k1 l0 y111 t101 (wrap64 (x6_1 + 1))) = some (r1, r2) := by first | (rw [hy111]; with_reducible exact H) | (have H2_ := (Option.bind_some _ _).symm.trans H; rw [hy111]; with_reducible exact H2_) | (have H2_ := (Option.bind_some _ _).symm.trans H; with_reducible exact H2_) | with_reducible exact H | (rw [hy111]; exact H) | exact H
         have Ny111 := Aside0.mk hy111; clear hy111; have H' := Aside0.mk H; clear H; obtain ⟨Ao13, co13, eo13⟩ := Kd.R_slice HO_5.out; subst eo13; have p104 : 0 ≤ (x6_1 : Int) := of_decide_eq_true pbb2_6; have q104 : x6_1 < (t101.length : Int) := of_decide_eq_true pbb2_6; obtain ⟨ad104, e104, hx104_0⟩ := Kd.at_string (Kd.R_reads' HO_5.out).2.2 x6_1 p104 q104
         cases e104
         replace p104 := eq_true p104; replace q104 := eq_true q104
         go_wp2_with (first | ((with_reducible refine gate_callee (f := 50) rfl ?_); refine goesL_ (some 24) rfl rfl Tryd.func50 (by kernel_rfl) rfl #[.slice A0 l0.length c0, .string (rdOf ByteArray.empty t101 x6_1)] rfl pbb2_5 ?_; (with_reducible refine (F50.calls k1 _ _ l0 (rdOf ByteArray.empty t101 x6_1) t105 t106 true _ por1_0 HC0.out A6.out).mono ?_); rintro e w14 ⟨rfl, hb⟩; refine ⟨_, rfl, ?_⟩; replace HO_4 := Aside0.mk (Kd.R_below por2_1 hb); replace HO_5 := Aside0.mk (Kd.R_below por2_2 hb); replace HB := Aside0.mk (below_step pbb2_9 hb); (try clear hb); (try clear hb2); (try clear hk); (try clear hi)) | (go_at_call 41; (with_reducible refine (F41.calls t105 1000000000000000 true _ A8.out).mono ?_); rintro e w' ⟨rfl, ⟨nd, rfl⟩⟩) | (go_at_call 41; (with_reducible refine (F41.calls t106 1000000000000000 true _ A10.out).mono ?_); rintro e w' ⟨rfl, ⟨nd, rfl⟩⟩; have p110 : 0 ≤ (x6_1 : Int) := of_decide_eq_true pbb2_6; have q110 : x6_1 < (t101.length : Int) := of_decide_eq_true pbb2_6; obtain ⟨ad110, e110, hx110_0⟩ := Kd.at_string (Kd.R_reads' HO_5.out).2.2 x6_1 p110 q110; obtain rfl : ad104 = ad110 := (by injection e110); replace p110 := eq_true p110; replace q110 := eq_true q110) | ((with_reducible refine gate_builtin (b := .append) (xs := #[.tmp 40, .tmp 48]) rfl ?_); at_builtin; refine Kd.R_append k61 (w0 := w) w.heap.size rfl (.tmp 40) (.tmp 48) 39 61 (.agg #[(.string ⟨#[]⟩), (.int .i64 0), (.int .i64 0)]) 32 rfl Tryd.underlying39 info61 rfl (by decide) (by omega) u4 x4_1 (⟨rdOf ByteArray.empty t101 x6_1, t105, t106⟩ : S61) [.string (rdOf ByteArray.empty t101 x6_1), .int .i64 t105, .int .i64 t106] (fun _ => True) (fun _ => False) rfl rfl ?aP (fun _ hk => hk.elim) ?aF ?aO ?aB ?aS ?aL ?_; (case aP => exact k61_mkM _ _ _ (⟨rdOf ByteArray.empty t101 x6_1, t105, t106⟩ : S61)); (case aB => exact pbb2_9); (case aF => exact (fun _ _ => trivial)); (case aO => exact por2_1); (case aS => exact (below_size pbb2_9)); (case aL => have := LMc12.out; omega); intro v112 w15 ho hb hg hat; rw [← Ny111.out] at ho; replace HO_5 := Aside0.mk (Kd.R_over' por2_2 (Kd.R_typed por2_1) (by decide) hg); replace HB := Aside0.mk (hb); have HO113 := Aside0.mk (ho); clear HO_4; clear ho hb hg hat))
         go_roundg k1
         case measure => have := HK1.out; omega
         case rel => exact ⟨(y111), (wrap64 (x6_1 + 1)), pbb2_3, H', ⟨pbb2_7⟩, ⟨by (with_reducible repeat (first | apply Kd.R_alloc | apply Kd.R_drewN | apply Kd.R_drew)); exact HO113.out⟩, ⟨por2_2⟩, ⟨pbb2_9⟩⟩
        ·rw [if_neg c12] at H; exact absurd H (by simp)
       ·replace c11 := Bool.eq_false_iff.mpr c11; subst c11; rw [if_neg (show ¬ (false = true) by decide)] at H; simp only [Option.some.injEq, Prod.mk.injEq] at H; obtain ⟨rfl, rfl⟩ := H; obtain ⟨Ao16, co16, eo16⟩ := Kd.R_slice HO_5.out; subst eo16; have p104 : 0 ≤ (x6_1 : Int) := of_decide_eq_true pbb2_6; have q104 : x6_1 < (t101.length : Int) := of_decide_eq_true pbb2_6; obtain ⟨ad104, e104, hx104_0⟩ := Kd.at_string (Kd.R_reads' HO_5.out).2.2 x6_1 p104 q104
        cases e104
        replace p104 := eq_true p104; replace q104 := eq_true q104
        go_wp2_with (first | ((with_reducible refine gate_callee (f := 50) rfl ?_); refine goesL_ (some 24) rfl rfl Tryd.func50 (by kernel_rfl) rfl #[.slice A0 l0.length c0, .string (rdOf ByteArray.empty t101 x6_1)] rfl pbb2_5 ?_; (with_reducible refine (F50.calls k1 _ _ l0 (rdOf ByteArray.empty t101 x6_1) t105 t106 true _ por1_0 HC0.out A6.out).mono ?_); rintro e w17 ⟨rfl, hb⟩; refine ⟨_, rfl, ?_⟩; replace HO_4 := Aside0.mk (Kd.R_below por2_1 hb); replace HO_5 := Aside0.mk (Kd.R_below por2_2 hb); replace HB := Aside0.mk (below_step pbb2_9 hb); (try clear hb); (try clear hb2); (try clear hk); (try clear hi)) | (go_at_call 41; (with_reducible refine (F41.calls t105 1000000000000000 true _ A8.out).mono ?_); rintro e w' ⟨rfl, ⟨nd, rfl⟩⟩) | (go_at_call 41; (with_reducible refine (F41.calls t106 1000000000000000 false _ A10.out).mono ?_); rintro e w' ⟨rfl, ⟨nd, rfl⟩⟩))
        go_ret2
        exact ⟨_, pbb2_18, por2_0, pbb2_9⟩
      ·replace c9 := Bool.eq_false_iff.mpr c9; subst c9; rw [if_neg (show ¬ (false = true) by decide)] at H; simp only [Option.some.injEq, Prod.mk.injEq] at H; obtain ⟨rfl, rfl⟩ := H; obtain ⟨Ao18, co18, eo18⟩ := Kd.R_slice HO_5.out; subst eo18; have p104 : 0 ≤ (x6_1 : Int) := of_decide_eq_true pbb2_6; have q104 : x6_1 < (t101.length : Int) := of_decide_eq_true pbb2_6; obtain ⟨ad104, e104, hx104_0⟩ := Kd.at_string (Kd.R_reads' HO_5.out).2.2 x6_1 p104 q104
       cases e104
       replace p104 := eq_true p104; replace q104 := eq_true q104
       go_wp2_with (first | ((with_reducible refine gate_callee (f := 50) rfl ?_); refine goesL_ (some 24) rfl rfl Tryd.func50 (by kernel_rfl) rfl #[.slice A0 l0.length c0, .string (rdOf ByteArray.empty t101 x6_1)] rfl pbb2_5 ?_; (with_reducible refine (F50.calls k1 _ _ l0 (rdOf ByteArray.empty t101 x6_1) t105 t106 true _ por1_0 HC0.out A6.out).mono ?_); rintro e w19 ⟨rfl, hb⟩; refine ⟨_, rfl, ?_⟩; replace HO_4 := Aside0.mk (Kd.R_below por2_1 hb); replace HO_5 := Aside0.mk (Kd.R_below por2_2 hb); replace HB := Aside0.mk (below_step pbb2_9 hb); (try clear hb); (try clear hb2); (try clear hk); (try clear hi)) | (go_at_call 41; (with_reducible refine (F41.calls t105 1000000000000000 false _ A8.out).mono ?_); rintro e w' ⟨rfl, ⟨nd, rfl⟩⟩))
       go_ret2
       exact ⟨_, pbb2_18, por2_0, pbb2_9⟩
     ·replace c7 := Bool.eq_false_iff.mpr c7; subst c7; rw [if_neg (show ¬ (false = true) by decide)] at H; simp only [Option.some.injEq, Prod.mk.injEq] at H; obtain ⟨rfl, rfl⟩ := H; obtain ⟨Ao20, co20, eo20⟩ := Kd.R_slice HO_5.out; subst eo20; have p104 : 0 ≤ (x6_1 : Int) := of_decide_eq_true pbb2_6; have q104 : x6_1 < (t101.length : Int) := of_decide_eq_true pbb2_6; obtain ⟨ad104, e104, hx104_0⟩ := Kd.at_string (Kd.R_reads' HO_5.out).2.2 x6_1 p104 q104
      cases e104
      replace p104 := eq_true p104; replace q104 := eq_true q104
      go_wp2_with (first | ((with_reducible refine gate_callee (f := 50) rfl ?_); refine goesL_ (some 24) rfl rfl Tryd.func50 (by kernel_rfl) rfl #[.slice A0 l0.length c0, .string (rdOf ByteArray.empty t101 x6_1)] rfl pbb2_5 ?_; (with_reducible refine (F50.calls k1 _ _ l0 (rdOf ByteArray.empty t101 x6_1) t105 t106 false _ por1_0 HC0.out A6.out).mono ?_); rintro e w21 ⟨rfl, hb⟩; refine ⟨_, rfl, ?_⟩; replace HO_4 := Aside0.mk (Kd.R_below por2_1 hb); replace HO_5 := Aside0.mk (Kd.R_below por2_2 hb); replace HB := Aside0.mk (below_step pbb2_9 hb); (try clear hb); (try clear hb2); (try clear hk); (try clear hi)))
      go_ret2
      exact ⟨_, pbb2_18, por2_0, pbb2_9⟩
    ·rw [if_neg c5] at H; exact absurd H (by simp)
   ·rw [if_neg c4] at H; have c4b0 := decide_eq_false c4; clear c4; simp only [Option.some.injEq, Prod.mk.injEq] at H; obtain ⟨rfl, rfl⟩ := H; obtain ⟨Ao22, co22, eo22⟩ := Kd.R_slice HO_5.out; subst eo22
    go_wp2
    go_ret2
    exact ⟨_, pbb2_18, por2_1, pbb2_9⟩
def F21.l0 : Nat → List (S24) → List Int → Int → Option (Int × Int)
  | 0, _, _, _ => none
  | k + 1, x0, x4, x5 => if x5 < (x0.length : Int) then (if 0 ≤ x5 then (if x4.length < 17592186044416 then (F21.l0 k x0 (x4 ++ [mx ((rd_T24 x0 x5).f3) 0]) (wrap64 (x5 + 1))) else (none)) else (none)) else ((F52.f k x4).bind fun bt105 => (if bt105.2 = true then (if bt105.1 > 1000000000000000 then (some (0, 4)) else (some (bt105.1, 0))) else (some (0, 4))))
def F21.f (k : Nat) (l0 : List (S24)) : Option (Int × Int) := F21.l0 k l0 ([] : List Int) 0
set_option maxHeartbeats 8000000 in
set_option maxRecDepth 100000 in
theorem F21.calls (k : Nat) (A0 : Option Addr) (c0 : Nat) (l0 : List (S24)) (r1 : Int) (r2 : Int) (w : World) (hr0 : Kd.C k24 w A0 l0.length l0) (hc0 : l0.length ≤ c0) (h : F21.f k l0 = some (r1, r2)) :
    Calls Tryd.prog 21 #[.slice A0 l0.length c0] w fun e w' => e = .returned (.tuple #[.int .i64 r1, .int .i64 r2]) ∧ Below w.heap.size w w' := by
 have hu3 := Tryd.underlying3; have HR0 := Aside0.mk hr0; have HC0 := Aside0.mk hc0; clear hr0 hc0; have HB := Aside0.mk (Below.refl w.heap.size w)
 unfold F21.f at h
 have H := h; clear h; have H' := Aside0.mk H; clear H; go_enter Tryd.func21, Tryd.ntmps21
 go_wp2
 go_loopg [4, 5] k (fun kq v4 v5 w' => ∃ (x4_1 : List Int) (x5_1 : Int), v5 = .int .i64 x5_1 ∧ Aside0 (F21.l0 kq l0 x4_1 x5_1 = some (r1, r2)) ∧ Aside0 (kq ≤ k) ∧ Aside0 (Kd.R (Kd.int .i64) 3 w' w.heap.size (fun _ => True) v4 x4_1) ∧ Aside0 (Below w.heap.size w w'))
 case atStart => exact ⟨(([] : List Int)), (0), pbb2_3, H', ⟨Nat.le_refl _⟩, ⟨por2_0⟩, ⟨pbb2_9⟩⟩
 case round =>
  clear H'; obtain ⟨x4_1, x5_1, rfl, HA, HK1, HO_4, HB⟩ := hrel
  cases gk with
  | zero => exact absurd HA.out (by simp [F21.l0])
  | succ k1 =>
   have H := HA.out; clear HA; simp only [F21.l0] at H
   by_cases c2 : x5_1 < (l0.length : Int)
   ·rw [if_pos c2] at H; have c2b0 := decide_eq_true c2; clear c2
    by_cases c3 : 0 ≤ x5_1
    ·rw [if_pos c3] at H; have c3b0 := decide_eq_true c3; clear c3; obtain ⟨ji4, hji4⟩ : ∃ j_ : Int, (mx ((rd_T24 l0 x5_1).f3) 0) = j_ := ⟨_, rfl⟩; (first | rw [hji4] at H | simp only [hji4] at H); have hji4_ : (if ((rd_T24 l0 x5_1).f3) < 0 then 0 else ((rd_T24 l0 x5_1).f3)) = ji4 := hji4
     by_cases c5 : x4_1.length < 17592186044416
     ·rw [if_pos c5] at H; have LMc5 := Aside0.mk c5; clear c5; obtain ⟨y102, hy102⟩ : ∃ y_ : List Int, y_ = (x4_1 ++ [ji4]) := ⟨_, rfl⟩; replace H : (F21.l0 k1 l0 y102 (wrap64 (x5_1 + 1))) = some (r1, r2) := by first | (rw [hy102]; with_reducible exact H) | (have H2_ := (Option.bind_some _ _).symm.trans H; rw [hy102]; with_reducible exact H2_) | (have H2_ := (Option.bind_some _ _).symm.trans H; with_reducible exact H2_) | with_reducible exact H | (rw [hy102]; exact H) | exact H
      have Ny102 := Aside0.mk hy102; clear hy102; have H' := Aside0.mk H; clear H; have p101 : 0 ≤ (x5_1 : Int) := of_decide_eq_true pbb2_6; have q101 : x5_1 < (l0.length : Int) := of_decide_eq_true pbb2_6; obtain ⟨ad101, A101_6, c101_6, e101, hx101_0, hx101_1, hx101_2, hx101_3, hx101_4, hx101_5, hx101_6, hl101_6, hi101_6⟩ := at_T24 HR0.out x5_1 p101 q101
      cases e101
      replace hx101_0 := (HB.out.cell (World.block_lt_of_cell? w _ hx101_0)).trans hx101_0; replace hx101_1 := (HB.out.cell (World.block_lt_of_cell? w _ hx101_1)).trans hx101_1; replace hx101_2 := (HB.out.cell (World.block_lt_of_cell? w _ hx101_2)).trans hx101_2; replace hx101_3 := (HB.out.cell (World.block_lt_of_cell? w _ hx101_3)).trans hx101_3; replace hx101_4 := (HB.out.cell (World.block_lt_of_cell? w _ hx101_4)).trans hx101_4; replace hx101_5 := (HB.out.cell (World.block_lt_of_cell? w _ hx101_5)).trans hx101_5; replace hx101_6 := (HB.out.cell (World.block_lt_of_cell? w _ hx101_6)).trans hx101_6; have HR101_6 := Aside0.mk hi101_6; have HC101_6 := Aside0.mk hl101_6; clear hi101_6 hl101_6; replace p101 := eq_true p101; replace q101 := eq_true q101
      go_wp2_with (first | ((with_reducible refine gate_builtin (b := .append) (xs := #[.tmp 14, .tmp 21]) rfl ?_); at_builtin; refine Kd.R_append (Kd.int .i64) (w0 := w) w.heap.size rfl (.tmp 14) (.tmp 21) 80 3 (.int .i64 0) 8 rfl Tryd.underlying80 info3 rfl (by decide) (by omega) u4 x4_1 ji4 [.int .i64 ji4] (fun _ => True) (fun _ => False) rfl rfl ?aP (fun _ hk => hk.elim) ?aF ?aO ?aB ?aS ?aL ?_; (case aP => exact rfl); (case aB => exact pbb2_9); (case aF => exact (fun _ _ => trivial)); (case aO => exact por2_1); (case aS => exact (below_size pbb2_9)); (case aL => have := LMc5.out; omega); intro v103 w6 ho hb hg hat; rw [← Ny102.out] at ho; replace HB := Aside0.mk (hb); have HO104 := Aside0.mk (ho); clear HO_4; clear ho hb hg hat))
      go_roundg k1
      case measure => have := HK1.out; omega
      case rel => exact ⟨(y102), (wrap64 (x5_1 + 1)), pbb2_3, H', ⟨pbb2_7⟩, ⟨by (with_reducible repeat (first | apply Kd.R_alloc | apply Kd.R_drewN | apply Kd.R_drew)); exact HO104.out⟩, ⟨pbb2_9⟩⟩
     ·rw [if_neg c5] at H; exact absurd H (by simp)
    ·rw [if_neg c3] at H; exact absurd H (by simp)
   ·rw [if_neg c2] at H; have c2b0 := decide_eq_false c2; clear c2; obtain ⟨⟨t105, t106⟩, A70, H⟩ := bnd H; (try dsimp only at H); have A7 := Aside0.mk A70; clear A70
    by_cases c8 : t106 = true
    ·subst c8; rw [if_pos rfl] at H
     by_cases c9 : t105 > 1000000000000000
     ·rw [if_pos c9] at H; have c9b0 : decide (1000000000000000 < t105) = true := decide_eq_true c9; clear c9; simp only [Option.some.injEq, Prod.mk.injEq] at H; obtain ⟨rfl, rfl⟩ := H; obtain ⟨Ao10, co10, eo10⟩ := Kd.R_slice HO_4.out; subst eo10
      go_wp2_with (first | ((with_reducible refine gate_callee (f := 52) rfl ?_); refine goesL_ (some 25) rfl rfl Tryd.func52 (by kernel_rfl) rfl #[.slice Ao10 x4_1.length co10] rfl pbb2_5 ?_; (with_reducible refine (F52.calls k1 _ _ x4_1 t105 true _ por2_3 (by exact (Kd.R_reads' HO_4.out).2.1) A7.out).mono ?_); rintro e w' ⟨rfl, ⟨nd, rfl⟩⟩; refine ⟨_, rfl, ?_⟩))
      go_ret2
      exact ⟨pbb2_18, pbb2_9⟩
     ·rw [if_neg c9] at H; have c9b0 : decide (1000000000000000 < t105) = false := decide_eq_false c9; clear c9; simp only [Option.some.injEq, Prod.mk.injEq] at H; obtain ⟨rfl, rfl⟩ := H; obtain ⟨Ao11, co11, eo11⟩ := Kd.R_slice HO_4.out; subst eo11
      go_wp2_with (first | ((with_reducible refine gate_callee (f := 52) rfl ?_); refine goesL_ (some 25) rfl rfl Tryd.func52 (by kernel_rfl) rfl #[.slice Ao11 x4_1.length co11] rfl pbb2_5 ?_; (with_reducible refine (F52.calls k1 _ _ x4_1 t105 true _ por2_3 (by exact (Kd.R_reads' HO_4.out).2.1) A7.out).mono ?_); rintro e w' ⟨rfl, ⟨nd, rfl⟩⟩; refine ⟨_, rfl, ?_⟩))
      go_ret2
      exact ⟨pbb2_18, pbb2_9⟩
    ·replace c8 := Bool.eq_false_iff.mpr c8; subst c8; rw [if_neg (show ¬ (false = true) by decide)] at H; simp only [Option.some.injEq, Prod.mk.injEq] at H; obtain ⟨rfl, rfl⟩ := H; obtain ⟨Ao12, co12, eo12⟩ := Kd.R_slice HO_4.out; subst eo12
     go_wp2_with (first | ((with_reducible refine gate_callee (f := 52) rfl ?_); refine goesL_ (some 25) rfl rfl Tryd.func52 (by kernel_rfl) rfl #[.slice Ao12 x4_1.length co12] rfl pbb2_5 ?_; (with_reducible refine (F52.calls k1 _ _ x4_1 t105 false _ por2_3 (by exact (Kd.R_reads' HO_4.out).2.1) A7.out).mono ?_); rintro e w' ⟨rfl, ⟨nd, rfl⟩⟩; refine ⟨_, rfl, ?_⟩))
     go_ret2
     exact ⟨pbb2_18, pbb2_9⟩
end Go.Proofs.YtjeecehhcajfaaaDoor.M
end
section
namespace Go.Proofs.YtjeecehhcajfaaaDoor.M
open Go.RowKit Go.Proofs.YtjeecehhcajfaaaDoorW.PrintWords Go.Proofs.YtjeecehhcajfaaaDoorW.PrintLast
set_option linter.unusedVariables false
set_option linter.unusedSimpArgs false
theorem withinS.eq (a : Int) : F41.f a 1000000000000000 = some (decide (fitS a)) := by
 unfold F41.f
 rw [w64 (n := -1000000000000000) (by omega) (by omega)]
 by_cases c : a ≥ -1000000000000000
 ·rw [if_pos c]
  by_cases c2 : a ≤ 1000000000000000
  ·rw [decide_eq_true c2, decide_eq_true (show fitS a from ⟨c, c2⟩)]
  ·rw [decide_eq_false c2, decide_eq_false (show ¬ fitS a from fun hh => c2 hh.2)]
 ·rw [if_neg c, decide_eq_false (show ¬ fitS a from fun hh => c hh.1)]
theorem refSumsL.go (l : List Li) (h : okA l) (C : List ByteArray) (hC : C.length ≤ 1000000) : ∀ (n i : Nat) (out : List Sm), i + n = C.length → out.length ≤ i → Ev (fun k => F19.l0 k l out C (i : Int)) (sumsV l (C.drop i) out)
 | 0, i, out, hi, ho => by
  refine Ev.succ ?_; simp only [F19.l0, if_neg (show ¬ (i : Int) < (C.length : Int) by omega)]; rw [List.drop_eq_nil_of_le (by omega)]; exact Ev.const _
 | n + 1, i, out, hi, ho => by
  have hlt : i < C.length := by omega
  have hrd : rdOf ByteArray.empty C (i : Int) = C[i] := by simp [rdOf, hlt]
  refine Ev.succ ?_; simp only [F19.l0, if_pos (show (i : Int) < (C.length : Int) by omega), if_pos (show (0 : Int) ≤ (i : Int) by omega), hrd, w64s (show i ≤ 1000000000 by omega)]; refine Ev.bind (refSums.eq l h C[i]) ?_; rw [List.drop_eq_getElem_cons hlt]; simp only [sumsV]
  unfold sumv
  by_cases e1 : inW (amtsOf curKey l C[i]).sum
  ·by_cases e2 : inW (basesOf curKey l C[i]).sum
   ·simp only [if_pos e1, if_pos e2, Bool.and_self, if_true, withinS.eq, Option.bind_some]
    by_cases f1 : fitS (amtsOf curKey l C[i]).sum
    ·by_cases f2 : fitS (basesOf curKey l C[i]).sum
     ·simp only [f1, f2, decide_true, if_true, and_self, if_pos (show out.length < 4398046511104 by omega)]; exact refSumsL.go l h C hC n (i + 1) _ (by omega) (by simp; omega)
     ·simp only [f1, f2, decide_true, decide_false, if_true, Bool.false_eq_true, if_false, and_false]; exact Ev.const _
    ·simp only [f1, decide_false, Bool.false_eq_true, if_false, false_and]; exact Ev.const _
   ·have f2 : ¬ fitS (basesOf curKey l C[i]).sum := fun hh => e2 (by unfold fitS at hh; unfold inW; omega); simp only [if_pos e1, if_neg e2, Bool.and_false, Bool.false_eq_true, if_false, f2, and_false]; exact Ev.const _
  ·have f1 : ¬ fitS (amtsOf curKey l C[i]).sum := fun hh => e1 (by unfold fitS at hh; unfold inW; omega); simp only [if_neg e1, Bool.false_and, Bool.false_eq_true, if_false, f1, false_and]; exact Ev.const _
theorem refSumsL.eq (l : List Li) (h : okA l) : Ev (fun k => F19.f k l) (sumsv l) := by
 unfold F19.f F49.f sumsv
 simp only [if_pos h.1, Option.bind_some]; exact refSumsL.go l h (cursOf l) (Nat.le_trans (cursOf_len l) h.1) (cursOf l).length 0 [] (by omega) (by simp)
def posOf (l : List Li) : List Int := (l.filter (fun x => decide (x.f3 > 0))).map (·.f3)
def maxOf (l : List Li) : List Int := l.map (fun x => mx x.f3 0)
theorem pos_max : ∀ l : List Li, (posOf l).sum = (maxOf l).sum
 | [] => rfl
 | x :: l => by
  have ih := pos_max l
  unfold posOf maxOf at ih ⊢
  rw [List.filter_cons, List.map_cons, List.sum_cons]
  by_cases c : x.f3 > 0
  ·rw [if_pos (decide_eq_true c), List.map_cons, List.sum_cons, ih]; have : mx x.f3 0 = x.f3 := by unfold mx; omega
   rw [this]
  ·rw [if_neg (by simpa using c), ih]; have : mx x.f3 0 = 0 := by unfold mx; omega
   rw [this]; omega
theorem max_nonneg : ∀ l : List Li, 0 ≤ (maxOf l).sum
 | [] => by simp [maxOf]
 | x :: l => by
  have ih := max_nonneg l
  unfold maxOf at ih ⊢
  rw [List.map_cons, List.sum_cons]; have : 0 ≤ mx x.f3 0 := by unfold mx; omega
  omega
def volv (l : List Li) : Int × Int := if (maxOf l).sum ≤ 1000000000000000 then ((maxOf l).sum, 0) else (0, 4)
theorem pos_snoc (p : List Li) (x : Li) : posOf (p ++ [x]) = posOf p ++ (if x.f3 > 0 then [x.f3] else []) := by
 unfold posOf
 rw [List.filter_append, List.map_append]
 by_cases c : x.f3 > 0 <;> simp [c]
theorem vol.go (l : List Li) (h : okA l) : ∀ (n i : Nat), i + n = l.length → Ev (fun k => F20.l0 k (posOf (l.take i)) l (l.length : Int) (i : Int)) (volv l)
 | 0, i, hi => by
  have ht : l.take i = l := List.take_of_length_le (by omega)
  have hp : (posOf l).length ≤ 1000000 := by
   unfold posOf; rw [List.length_map]
   exact Nat.le_trans (List.length_filter_le _ _) h.1
  have hin : ∀ y ∈ posOf l, inW y := by
   intro y hy; obtain ⟨x, hx, rfl⟩ := List.mem_map.1 hy; exact (h.2 x (List.mem_filter.1 hx).1).2
  refine Ev.succ ?_; simp only [F20.l0, if_neg (show ¬ (i : Int) < (l.length : Int) by omega), ht, F51.eq 1000000000000000 (by omega) (by omega) _ hp hin, Option.bind_some]
  unfold sumE volv
  have hm := max_nonneg l; rw [pos_max]
  by_cases c : (maxOf l).sum ≤ 1000000000000000
  ·rw [if_pos ⟨by omega, c⟩, if_pos c]; exact Ev.const _
  ·rw [if_neg (fun hh => c hh.2), if_neg c]; exact Ev.const _
 | n + 1, i, hi => by
  have hlt : i < l.length := by omega
  have hn := h.1; have hrd : rd_T24 l (i : Int) = l[i] := by simp [rd_T24, hlt]
  have ih := vol.go l h n (i + 1) (by omega)
  have hp : (posOf (l.take i)).length ≤ i := by
   unfold posOf; rw [List.length_map]
   refine Nat.le_trans (List.length_filter_le _ _) ?_; rw [List.length_take]; omega
  rw [List.take_succ_eq_append_getElem hlt, pos_snoc] at ih; refine Ev.succ ?_; simp only [F20.l0, if_pos (show (i : Int) < (l.length : Int) by omega), if_pos (show (0 : Int) ≤ (i : Int) by omega), hrd, w64s (show i ≤ 1000000000 by omega)]
  by_cases c : l[i].f3 > 0
  ·simp only [if_pos c, if_pos (show (posOf (l.take i)).length < 17592186044416 by omega)] at ih ⊢; exact ih
  ·simp only [if_neg c, List.append_nil] at ih ⊢; exact ih
theorem vol.eq (l : List Li) (h : okA l) : Ev (fun k => F20.f k l) (volv l) := by
 unfold F20.f
 have := vol.go l h l.length 0 (by omega)
 simpa [posOf] using this
theorem refVol.go (l : List Li) (h : okA l) : ∀ (n i : Nat), i + n = l.length → Ev (fun k => F21.l0 k l (maxOf (l.take i)) (i : Int)) (volv l)
 | 0, i, hi => by
  have ht : l.take i = l := List.take_of_length_le (by omega); have hp : (maxOf l).length ≤ 1000000 := by unfold maxOf; rw [List.length_map]; exact h.1
  have hin : ∀ y ∈ maxOf l, inW y := by
   intro y hy; obtain ⟨x, hx, rfl⟩ := List.mem_map.1 hy; have := (h.2 x hx).2
   unfold inW mx at *
   omega
  refine Ev.succ ?_; simp only [F21.l0, if_neg (show ¬ (i : Int) < (l.length : Int) by omega), ht]; refine Ev.bind (refSum.eq _ hp hin) ?_
  unfold sumv volv
  have hm := max_nonneg l
  by_cases e : inW (maxOf l).sum
  ·simp only [if_pos e, if_true]
   by_cases c : (maxOf l).sum ≤ 1000000000000000
   ·simp only [if_neg (show ¬ (maxOf l).sum > 1000000000000000 by omega), if_pos c]; exact Ev.const _
   ·simp only [if_pos (show (maxOf l).sum > 1000000000000000 by omega), if_neg c]; exact Ev.const _
  ·have c : ¬ (maxOf l).sum ≤ 1000000000000000 := fun hh => e (by unfold inW; omega); simp only [if_neg e, Bool.false_eq_true, if_false, if_neg c]; exact Ev.const _
 | n + 1, i, hi => by
  have hlt : i < l.length := by omega
  have hn := h.1; have hrd : rd_T24 l (i : Int) = l[i] := by simp [rd_T24, hlt]
  have ih := refVol.go l h n (i + 1) (by omega); have hp : (maxOf (l.take i)).length ≤ i := by unfold maxOf; rw [List.length_map, List.length_take]; omega
  rw [List.take_succ_eq_append_getElem hlt] at ih; have e : maxOf (l.take i ++ [l[i]]) = maxOf (l.take i) ++ [mx l[i].f3 0] := by unfold maxOf; rw [List.map_append]; rfl
  rw [e] at ih; refine Ev.succ ?_; simp only [F21.l0, if_pos (show (i : Int) < (l.length : Int) by omega), if_pos (show (0 : Int) ≤ (i : Int) by omega), hrd, if_pos (show (maxOf (l.take i)).length < 17592186044416 by omega), w64s (show i ≤ 1000000000 by omega)]; exact ih
theorem refVol.eq (l : List Li) (h : okA l) : Ev (fun k => F21.f k l) (volv l) := by
 unfold F21.f
 have := refVol.go l h l.length 0 (by omega)
 simpa [maxOf] using this
end Go.Proofs.YtjeecehhcajfaaaDoor.M
end
section
namespace Go.Proofs.YtjeecehhcajfaaaDoor.M
open Go.RowKit Go.Proofs.YtjeecehhcajfaaaDoorW.PrintWords Go.Proofs.YtjeecehhcajfaaaDoorW.PrintLast
set_option linter.unusedVariables false
set_option linter.unusedSimpArgs false
theorem osameSums.go (a : List Sm) (hn : a.length ≤ 1000000) : ∀ (n i : Nat), i + n = a.length → Ev (fun k => F22.l0 k a a (i : Int)) true
 | 0, i, h => by
  refine Ev.succ ?_; simp only [F22.l0, if_neg (show ¬ (i : Int) < (a.length : Int) by omega)]; exact Ev.const _
 | n + 1, i, h => by
  have ih := osameSums.go a hn n (i + 1) (by omega); refine Ev.succ ?_; simp only [F22.l0, if_pos (show (i : Int) < (a.length : Int) by omega), if_pos (show (0 : Int) ≤ (i : Int) by omega), w64s (show i ≤ 1000000000 by omega), if_true]
  simpa using ih
theorem osameSums.self (a : List Sm) (hn : a.length ≤ 1000000) : Ev (fun k => F22.f k a a) true := by
 unfold F22.f
 simp only [if_true]; exact osameSums.go a hn a.length 0 (by omega)
theorem osumsV_len (l : List Li) : ∀ (C : List ByteArray) (out : List Sm), (sumsV l C out).1.length ≤ out.length + C.length
 | [], out => by simp [sumsV]
 | c :: C, out => by
  unfold sumsV
  split
  ·have := osumsV_len l C (out ++ [⟨c, (amtsOf curKey l c).sum, (basesOf curKey l c).sum⟩]); simp only [List.length_append, List.length_cons, List.length_nil] at this ⊢
   omega
  ·simp
theorem sum_rev : ∀ l : List Int, l.reverse.sum = l.sum
 | [] => rfl
 | x :: l => by rw [List.reverse_cons, List.sum_append, sum_rev l, List.sum_cons, List.sum_cons, List.sum_nil]; omega
theorem amts_rev (l : List Li) (c : ByteArray) : (amtsOf curKey l.reverse c).sum = (amtsOf curKey l c).sum := by
 unfold amtsOf
 rw [List.filter_reverse, List.map_reverse, sum_rev]
theorem bases_rev (l : List Li) (c : ByteArray) : (basesOf curKey l.reverse c).sum = (basesOf curKey l c).sum := by
 unfold basesOf
 rw [List.filter_reverse, List.map_reverse, sum_rev]
theorem max_rev (l : List Li) : (maxOf l.reverse).sum = (maxOf l).sum := by
 unfold maxOf
 rw [List.map_reverse, sum_rev]
theorem curs_rev (l : List Li) : cursOf l.reverse = cursOf l := by
 rw [cursOf_fold, cursOf_fold]; refine sortedC_ext (foldC_sorted _ [] List.Pairwise.nil) (foldC_sorted _ [] List.Pairwise.nil) (fun x => ?_)
 unfold isortC
 rw [foldC_mem, foldC_mem]
 simp
theorem sumsV_rev (l : List Li) : ∀ (C : List ByteArray) (out : List Sm), sumsV l.reverse C out = sumsV l C out
 | [], out => rfl
 | c :: C, out => by
  simp only [sumsV, amts_rev, bases_rev]
  split
  ·exact sumsV_rev l C _
  ·rfl
theorem sumsv_rev (l : List Li) : sumsv l.reverse = sumsv l := by
 unfold sumsv
 rw [curs_rev, sumsV_rev]
theorem vol_rev (l : List Li) : volv l.reverse = volv l := by
 unfold volv
 rw [max_rev]
theorem bal_rev (l : List Li) : balv l.reverse = balv l := by
 unfold balv
 have : (fun x : Li => bal1 l.reverse x.f1) = fun x => bal1 l x.f1 := by
  funext x
  unfold bal1
  rw [amts_rev, bases_rev]
 rw [this, List.all_reverse]
theorem okA_rev {l : List Li} (h : okA l) : okA l.reverse := ⟨by rw [List.length_reverse]; exact h.1, fun x hx => h.2 x (List.mem_reverse.1 hx)⟩
theorem pure_EntryOrder : F11.Pure := by
 intro x hx; refine Ev.out (g := fun k => F11.f k x months) ?_
 unfold F11.f
 obtain ⟨b, hb, hb2⟩ := F12.ok x; refine Ev.bind hb ?_
 cases b with
 | false =>
  simp only [Bool.false_eq_true, if_false]; exact F13.true
 | true =>
  simp only [if_true]; obtain ⟨n1, t1⟩ := hb2 rfl; have hA := G24_okA hx.2 n1; have hR := okA_rev hA
  have hl : (sumsv x).1.length ≤ 1000000 := by
   have h1 := osumsV_len x (cursOf x) []; have h2 := cursOf_len x
   unfold sumsv
   simp only [List.length_nil] at h1
   omega
  simp only [if_pos (show x.length ≤ 1000 by omega)]; refine Ev.bind (Ev.of (fun _ => F18.eq x hA)) (Ev.bind (Ev.of (fun _ => F18.eq _ hR)) (Ev.bind (vol.eq x hA) (Ev.bind (vol.eq _ hR) ?_))); rw [sumsv_rev, vol_rev]; refine Ev.bind (osameSums.self _ hl) ?_; simp only [and_self, if_true]; refine Ev.bind (Ev.of (fun _ => F23.eq x hA)) (Ev.bind (Ev.of (fun _ => F23.eq _ hR)) ?_); rw [bal_rev]; simp only [if_true]; exact F13.true
end Go.Proofs.YtjeecehhcajfaaaDoor.M
namespace Go.Proofs.YtjeecehhcajfaaaDoor.Pure
theorem EntryOrder : M.F11.Pure := M.pure_EntryOrder
end Go.Proofs.YtjeecehhcajfaaaDoor.Pure
end
section
namespace Go.Proofs.YtjeecehhcajfaaaDoor.M
open Go.ChangeShapes Go.WideShapes Go.ChangeAt Go.RowKit Go.Proofs.YtjeecehhcajfaaaDoorW.PrintWords Go.Proofs.YtjeecehhcajfaaaDoorW.PrintLast
abbrev laidL : List (String × DataW Unit) := [("accounting/days.lengths", Rows.laid_accounting_days_lengths)]
theorem gLen : Tryd.prog.globalNamed "accounting/days.lengths" = some 0 := by kernel_rfl
theorem tLen : (Tryd.prog.globals[0]?).map (·.type) = some 136 := by kernel_rfl
theorem cLen : Tryd.prog.cellsOf 136 = 12 := by kernel_rfl
theorem cInt : Tryd.prog.cellsOf 3 = 1 := by kernel_rfl
set_option maxRecDepth 100000 in
theorem tab_of_laid {W : World} (h : laidMetH Tryd.prog laidL W) : Tab W := by
 rw [MakeChecks.laidMetH_plain _ _ _ (by kernel_rfl)] at h; obtain ⟨ps, ⟨g0, t0, cs0, f0, p0, q0, hg0, ht0, hv0, hd0, _⟩, _⟩ := h; obtain rfl := Option.some.inj (gLen.symm.trans hg0); obtain rfl := Option.some.inj (tLen.symm.trans ht0); obtain ⟨xs, m1, rfl, hx1, hlen, hn3, hel⟩ := DataW.trod_array Tryd.underlying136 hd0
 have hxs : xs.map (·.1) = months.map (fun n => (DataW.lit (.int .i64 n) : DataW Unit)) := by
  have e := congrArg (fun y : DataW Unit × List MemPlace => y.1) hx1
  unfold Rows.laid_accounting_days_lengths at e
  injection e with e
  exact e.symm
 have each : ∀ i, i < 12 → cs0.toList[i]? = (months[i]?).map (Value.int .i64) := by
  intro i hi; have h1 := hel i hi; rw [cInt, Nat.mul_one] at h1; obtain ⟨x, hx⟩ : ∃ x, xs[i]? = some x := ⟨xs[i], List.getElem?_eq_getElem (by omega)⟩; rw [hx] at h1; obtain ⟨n, e1, e2, _⟩ := DataW.trod_int Tryd.underlying3 h1; have e3 := congrArg (fun l => l[i]?) hxs; simp only [List.getElem?_map, hx, Option.map_some, e2] at e3; have e4 := congrArg (fun l => l[0]?) e1; simp only [List.getElem?_take, List.getElem?_drop, Nat.add_zero, Nat.zero_lt_one, if_true, List.getElem?_cons_zero] at e4; rw [e4]
  cases hm : months[i]? with
  | none => rw [hm] at e3; cases e3
  | some m =>
   rw [hm] at e3; simp only [Option.map_some, Option.some.injEq, DataW.lit.injEq, Lit.int.injEq, true_and] at e3; rw [e3]
   rfl
 have hcs : cs0 = (months.map (Value.int .i64)).toArray := by
  rw [← Array.toList_inj]; apply List.ext_getElem?; intro i
  by_cases hi : i < 12
  ·rw [each i hi, List.getElem?_map]
  ·rw [List.getElem?_eq_none (by rw [hlen, cLen]; omega), List.getElem?_eq_none (by simp [months]; omega)]
 have hv := hv0; simp only [World.var?, gLen, Option.bind_some] at hv
 split at hv
 ·rename_i cs t fr hb
  obtain rfl := Option.some.inj hv; exact ⟨t, fr, by rw [hb, hcs]⟩
 ·cases hv
theorem door_met (os : Os) (args : Array Value) : laidMetH Tryd.prog laidL ((World.doorLaid Tryd.prog 400 os).forCall (fun _ _ => 0) ⟨#[], args, []⟩).memory :=
 laidMetH_of_parts3 (fuel := 8) (laidMet_of_run' 8 (by kernel_rfl) (by kernel_rfl)) (by kernel_rfl) (by kernel_rfl)
end Go.Proofs.YtjeecehhcajfaaaDoor.M
end
section
namespace Go.Proofs.YtjeecehhcajfaaaDoor.entryOrder
open Go.ChangeShapes Go.WideShapes Go.ChangeAt Go.RowKit Go.Proofs.YtjeecehhcajfaaaDoor.M Go.Proofs.YtjeecehhcajfaaaDoorW.PrintWords Go.Proofs.YtjeecehhcajfaaaDoorW.PrintLast
open Go.ChangeMaps (open_string shut_string)
set_option linter.unusedVariables false
theorem own : ownKnob Tryd.prog.godebug = none := by kernel_rfl
theorem laidOut : laidOutB Tryd.prog = true := by kernel_rfl
set_option maxRecDepth 100000 in
set_option maxHeartbeats 4000000 in
theorem lifted (os : Os) (started : os.Started) (H : Type) (enc : TypeId × Value → H) :
  ReturnsInHanded {} Tryd.checked os 11 .any (fun w args => (Rows.entryOrderSpec.pre enc Tryd.prog Tryd.f11 Rows.entryOrderRow.domain false w args ∧ laidMetH Tryd.prog Rows.entryOrderRow.laid w) ∧ sizedMet enc Tryd.prog Tryd.f11 (OpenSpec.ofChange Rows.entryOrderSpec) false w args) (Rows.entryOrderSpec.post enc Tryd.prog Tryd.f11 false true false false) := by
 refine returnsInHanded_of_change_and (C := Tryd.checked) (X := fun w _ => laidMetH Tryd.prog Rows.entryOrderRow.laid w) (fun _ _ _ hh h => h.of_heap hh) own started (by kernel_rfl) Tryd.func11
  (ChangeSpec.witness_shaped (enc := enc) (C := Tryd.checked) (os := os) (X := fun w _ => laidMetH Tryd.prog Rows.entryOrderRow.laid w) false (World.doorLaid Tryd.prog 400 os) #[.slice none 0 0] 8 rfl (World.shaped_of_RefB (by kernel_rfl) (by kernel_rfl)) (by kernel_rfl) (by kernel_rfl) (by kernel_rfl) (door_met os _)) ?_
 intro W base args ds gs before hval0 hW hcnd hsz0 hL _; have hsz : (DataW.weightsEach Tryd.prog (Tryd.f11.params.toList ++ Rows.entryOrderSpec.plain.varTypes Tryd.prog) (ds ++ gs)).all (· ≤ reachBytes) = true := hsz0; have hval : ∀ (j : Nat) t v, Tryd.f11.params[j]? = some t → args[j]? = some v → Value.okWide Tryd.prog W .any base t v := hval0; have hW' := hW; obtain ⟨p, q, hA0, hV, rfl, hfz, hnd⟩ := hW; have hA : DataW.TrodAll enc Tryd.prog W 0 (fun _ => true) true Tryd.f11.params.toList args.toList ds p := hA0; rw [Tryd.params11] at hA hval hsz; obtain ⟨v0, vs0, d0, ds0, p0, q0, hargs, rfl, rfl, h0, r0⟩ := trodAll_cons hA; obtain ⟨rfl, rfl, rfl⟩ := trodAll_nil r0; obtain rfl : args = #[v0] := by cases args; simp_all
 obtain ⟨rfl, rfl⟩ := trodVars_none hV; obtain ⟨a0, len0, cap0, rfl⟩ := okWide_slice Tryd.underlying26 (hval 0 26 v0 rfl rfl); have k0 := h0; have lt0 : ∀ x ∈ p0, x.block < W.heap.size := by obtain ⟨m, hm⟩ := k0; exact DataW.trod_lt m _ _ _ hm
 obtain ⟨x0, K0, g0⟩ : ∃ x_ : List (S24), (Kd.slice 24 k24).K W x_ [.slice a0 len0 cap0] ∧ (x_.length * 104 ≤ 140737488351232 ∧ ∀ y0_ ∈ x_, G24 y0_) := by obtain ⟨f, hf⟩ := h0; exact ((Opens.slice Tryd.underlying26 opens24 (by kernel_rfl) (b := 104) (by kernel_rfl))).get enc W 0 _ _ f _ _ hf (weights_at hsz (j := 0) (t := 26) rfl rfl)
 obtain ⟨A0, c0, e0, L0, C0⟩ := K0; injection e0 with e0 _
 injection e0 with e0a e0b e0c
 subst e0a e0b e0c; clear hA0 hval0 hsz0 hsz; obtain ⟨k, h⟩ := Pure.EntryOrder x0 g0; refine (M.F11.calls (k := k) (r := true) (w := W) (hr0 := C0) (hc0 := L0) (hr1 := kTab_of (tab_of_laid hL)) (hc1 := Nat.le_refl _) (h := h)).mono fun e W' ⟨he, bel0⟩ => ?_; have bel : Below W.heap.size W W' := by first | exact bel0 | exact bel0.below | (obtain ⟨nd, rfl⟩ := bel0; exact pw_below_drewN (Below.refl _ _) nd)
 subst he; exact ⟨_, rfl, _, _, _, [], _, [], hW', trodAll_mk1 (shut_bool Tryd.underlying4 _), (trodAll_cons_mk (Below.trod laidOut (by kernel_rfl) (of_decide_eq_true (by kernel_rfl)) k0 bel lt0) trodAll_mk0), rfl, bel.frame _, fun h => by cases h⟩
theorem over : Rows.entryOrderRow.holds Tryd.pinned (OpenSpec.ofChange Rows.entryOrderSpec) :=
 OpenClaim.holds_of_wide 11 Tryd.f11 rfl rfl rfl rfl rfl rfl rfl ⟨rfl, rfl, rfl, rfl, rfl⟩ rfl rfl rfl rfl rfl (by kernel_rfl) Tryd.func11 (by kernel_rfl)
  (of_decide_eq_true (by kernel_rfl)) (by unfold Func.isWrapper; first | (rw [if_pos (by decide +kernel)]; kernel_rfl) | (rw [if_neg (by decide +kernel)]; exact ⟨rfl, rfl⟩))
  (fun os started H enc _ => lifted os started H enc)
theorem proved : Rows.EntryOrderCardSaid :=
 Claim7.holds_tied_plain_at .later [] [.data] true (true, "be3c0a6bf7d168cfecf7312c4a458ffdf88559f71113c4694bf92cbd7a7be984") false
  over (fun _ h => by cases h) (by kernel_rfl) (fun _ h => by cases h) entryOrder_row_tie rfl ⟨rfl, rfl⟩ (by kernel_rfl) rfl
  (fun f fn hf hfn => by
   obtain rfl : f = 11 := Option.some.inj ((show Tryd.prog.funcNamed "accounting/accountinglaw12.EntryOrder" = some 11 by kernel_rfl).symm.trans hf) |>.symm; obtain rfl : fn = Tryd.f11 := (Option.some.inj (Tryd.func11.symm.trans hfn)).symm
   exact ⟨by kernel_rfl, fun j t ht => by
    rw [Tryd.params11] at ht; have hm : t ∈ [26] := by simpa using Array.mem_of_getElem? ht
    have hall : ([26].all fun u => !Tryd.prog.wantsStandIn u) = true := by kernel_rfl
    exact (show Tryd.prog.wantsStandIn t = false by simpa using List.all_eq_true.1 hall t hm)⟩)
  (by kernel_rfl)
#print axioms proved
end Go.Proofs.YtjeecehhcajfaaaDoor.entryOrder
namespace Go.Proofs.YtjeecehhcajfaaaDoor
theorem entryOrder_holds : Rows.EntryOrderCardSaid := entryOrder.proved
end Go.Proofs.YtjeecehhcajfaaaDoor
end
