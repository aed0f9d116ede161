/- The law of the entries, walked and shown. Part 1 of 1 of what is the claim's own. -/
import Derived.Test.YtjeecehhcajfaaaDoorQBB2
import Derived.Test.YtjeecehhcajfaaaDoorQBB5
import Derived.Test.YtjeecehhcajfaaaDoorQBB7
import Derived.Test.YtjeecehhcajfaaaDoorQBB8
import Derived.Test.YtjeecehhcajfaaaDoorQBB4
import Derived.Test.YtjeecehhcajfaaaDoorQBB9
import Derived.Test.YtjeecehhcajfaaaDoorRows
import Derived.Test.YtjeecehhcajfaaaDoorQBB1
import Derived.ProofKit
import Derived.LaidMore
import Derived.OpenShut
import Derived.Stop.Joined
import Derived.WalkKit
import Derived.ShutString
import Derived.ChangeOld
import Derived.Below
import Derived.SizedLaws
import Derived.Test.YtjeecehhcajfaaaDoorCards
import Derived.Test.YtjeecehhcajfaaaDoorTie
import Derived.SevenTiedAt
import Derived.Test.YtjeecehhcajfaaaDoorQBB6
namespace Go.Proofs.YtjeecehhcajfaaaDoor.M
theorem pco1_0 {p : Prop} (h : p := by repeat (first | exact HR0.out | (with_reducible refine Kd.C_alloc ?_ _) | (with_reducible refine Kd.C_drewN ?_ _) | (with_reducible refine Kd.C_drew ?_))) : p := h
theorem pco1_1 {p : Prop} (h : p := by repeat (first | exact (Kd.S_reads' HO106.out).2.2 | (with_reducible refine Kd.C_alloc ?_ _) | (with_reducible refine Kd.C_drewN ?_ _) | (with_reducible refine Kd.C_drew ?_))) : p := h
theorem pco1_2 {p : Prop} (h : p := by exact (Kd.S_reads' HO106.out).2.1) : p := h
theorem pco1_3 {p : Prop} (h : p := by (with_reducible repeat (first | apply Kd.S_alloc | apply Kd.S_drewN | apply Kd.S_drew)); exact HO106.out) : p := h
theorem pco1_4 {p : Prop} (h : p := by repeat (first | exact (Kd.C_below HR0.out HB.out) | (with_reducible refine Kd.C_alloc ?_ _) | (with_reducible refine Kd.C_drewN ?_ _) | (with_reducible refine Kd.C_drew ?_))) : p := h
theorem pco1_5 {p : Prop} (h : p := by repeat (first | exact (Kd.S_reads' HO_3.out).2.2 | (with_reducible refine Kd.C_alloc ?_ _) | (with_reducible refine Kd.C_drewN ?_ _) | (with_reducible refine Kd.C_drew ?_))) : p := h
theorem pco1_6 {p : Prop} (h : p := by exact (Kd.S_reads' HO_3.out).2.1) : p := h
theorem pco1_7 {p : Prop} (h : p := by (with_reducible repeat (first | apply Kd.S_alloc | apply Kd.S_drewN | apply Kd.S_drew)); exact HO_3.out) : p := h
theorem pco1_8 {p : Prop} (h : p := by (with_reducible repeat (first | apply Kd.R_alloc | apply Kd.R_drewN | apply Kd.R_drew)); exact HO_5.out) : p := h
theorem pco1_9 {p : Prop} (h : p := by have := HJ6.out; have := HK2.out; have := HJ21.out; have := HK4.out; omega) : p := h
theorem pco1_10 {p : Prop} (h : p := by (with_reducible repeat (first | apply Kd.R_alloc | apply Kd.R_drewN | apply Kd.R_drew)); exact HO_8.out) : p := h
theorem pco1_11 {p : Prop} (h : p := by repeat (first | exact (Kd.S_reads' HO117.out).2.2 | (with_reducible refine Kd.C_alloc ?_ _) | (with_reducible refine Kd.C_drewN ?_ _) | (with_reducible refine Kd.C_drew ?_))) : p := h
theorem pco1_12 {p : Prop} (h : p := by (with_reducible repeat (first | apply Kd.S_alloc | apply Kd.S_drewN | apply Kd.S_drew)); exact HO117.out) : p := h
theorem pco1_13 {p : Prop} (h : p := by (with_reducible repeat (first | apply Kd.R_alloc | apply Kd.R_drewN | apply Kd.R_drew)); exact HO_3.out) : p := h
end Go.Proofs.YtjeecehhcajfaaaDoor.M
section
namespace Go.Proofs.YtjeecehhcajfaaaDoor.M
open Go.RowKit Go.Proofs.YtjeecehhcajfaaaDoorW.PrintWords Go.Proofs.YtjeecehhcajfaaaDoorW.PrintLast Go.Proofs.YtjeecehhcajfaaaDoorW.PrintMore
attribute [local go_sem] max2_int min2_int max_two min_two max_three min_three max_four min_four
set_option linter.unusedVariables false
set_option linter.unusedSimpArgs false
attribute [local go_sem high] eqA61
mutual
def F9.j0 : Nat → List (S24) → List (S24) → Bool → List Int → Option (Bool)
  | 0, _, _, _, _ => none
  | k + 1, x0, x3, x42, x777 => if x42 = true then (none) else ((F18.f x3).bind fun bt110 => (F9.l0 k x0 x3 bt110.1 bt110.2 0 x777))
def F9.l0 : Nat → List (S24) → List (S24) → List (S61) → Int → Int → List Int → Option (Bool)
  | 0, _, _, _, _, _, _ => none
  | k + 1, x0, x3, x5, x6, x7, x777 => if x7 < (x5.length : Int) then (F9.j2 k x0 x3 x5 x6 x7 (x6 == 0) x777) else (F9.j2 k x0 x3 x5 x6 x7 false x777)
def F9.j2 : Nat → List (S24) → List (S24) → List (S61) → Int → Int → Bool → List Int → Option (Bool)
  | 0, _, _, _, _, _, _, _ => none
  | k + 1, x0, x3, x5, x6, x7, x55, x777 => if x55 = true then ((F18.f x0).bind fun bt120 => (F9.l1 k x0 x3 x5 x6 x7 bt120.1 bt120.2 false 0 x777)) else ((F25.f x3).bind fun bt114 => (if bt114.2 = 0 then ((F27.f k bt114.1 x3).bind fun t118 => (if t118 = true then ((F13.f k x777).bind fun t119 => (some t119)) else (none))) else (none)))
def F9.l1 : Nat → List (S24) → List (S24) → List (S61) → Int → Int → List (S61) → Int → Bool → Int → List Int → Option (Bool)
  | 0, _, _, _, _, _, _, _, _, _, _ => none
  | k + 1, x0, x3, x5, x6, x7, x8, x9, x10, x11, x777 => if x11 < (x8.length : Int) then (if x10 = true then (F9.l1 k x0 x3 x5 x6 x7 x8 x9 true (wrap64 (x11 + 1)) x777) else (if 0 ≤ x11 then (if 0 ≤ x7 then (if x7 < (x5.length : Int) then (F9.l1 k x0 x3 x5 x6 x7 x8 x9 ((((rd_T61 x8 x11).f0).toList) == (((rd_T61 x5 x7).f0).toList) && (((rd_T61 x8 x11).f1) == ((rd_T61 x5 x7).f1) && (((rd_T61 x8 x11).f2) == ((rd_T61 x5 x7).f2)))) (wrap64 (x11 + 1)) x777) else (none)) else (none)) else (none))) else (if x9 = 0 then (if x10 = true then (F9.l0 k x0 x3 x5 x6 (wrap64 (x7 + 1)) x777) else (none)) else (F9.l0 k x0 x3 x5 x6 (wrap64 (x7 + 1)) x777))
end
def F9.f (k : Nat) (l0 : List (S24)) (l1 : List Int) : Option (Bool) := (F12.f k l0).bind fun t101 => (if t101 = true then ((F25.f l0).bind fun bt103 => (if bt103.2 = 0 then ((F23.f bt103.1).bind fun t108 => ((F23.f l0).bind fun t109 => (if (t108 != t109) = true then (F9.j0 k l0 bt103.1 true l1) else (F9.j0 k l0 bt103.1 (decide ((bt103.1.length : Int) > (l0.length : Int))) l1)))) else (if (bt103.1.length : Int) = 0 then ((F13.f k l1).bind fun t107 => (some t107)) else (none)))) else ((F13.f k l1).bind fun t102 => (some t102)))
set_option maxHeartbeats 8000000 in
set_option maxRecDepth 100000 in
theorem F9.calls (k : Nat) (A0 : Option Addr) (c0 : Nat) (l0 : List (S24)) (A1 : Option Addr) (c1 : Nat) (l1 : List Int) (r : Bool) (w : World) (hr0 : Kd.C k24 w A0 l0.length l0) (hc0 : l0.length ≤ c0) (hr1 : Kd.C kTab w A1 l1.length l1) (hc1 : l1.length ≤ c1) (h : F9.f k l0 l1 = some r) :
    Calls Tryd.prog 9 #[.slice A0 l0.length c0] w fun e w' => e = .returned (.bool r) ∧ Below w.heap.size w w' := by
 have hu61 := Tryd.underlying61; have HR0 := Aside0.mk hr0; have HC0 := Aside0.mk hc0; clear hr0 hc0; have HR1 := Aside0.mk hr1; have HC1 := Aside0.mk hc1; clear hr1 hc1; have HB := Aside0.mk (Below.refl w.heap.size w)
 unfold F9.f at h
 have H := h; clear h; obtain ⟨t101, A30, H⟩ := bnd H; have A3 := Aside0.mk A30; clear A30
 by_cases c4 : t101 = true
 ·subst c4; rw [if_pos rfl] at H; obtain ⟨⟨t103, t104⟩, A50, H⟩ := bnd H; (try dsimp only at H); have A5 := Aside0.mk A50; clear A50
  by_cases c6 : t104 = 0
  ·rw [if_pos c6] at H; have c6b0 := bT_ c6; have c6b1 := bF_ c6; clear c6; have HC7 := Aside0.mk H; clear H; go_enter Tryd.func9, Tryd.ntmps9
   go_upto_region 6 with (first | (go_at_call 12; (with_reducible refine (F12.calls k _ _ l0 true _ pco1_0 HC0.out A3.out).mono ?_); rintro e w' ⟨rfl, ⟨nd, rfl⟩⟩; (try first | exact ⟨rfl, _, World.drewN_drewN _ _ _⟩ | exact ⟨rfl, _, Eq.trans (World.drewN_drewN _ _ _) (congrArg (World.drewN _) (Nat.add_assoc _ _ _))⟩)) | (go_at_call 25; (with_reducible refine (F25.calls _ _ l0 t103 t104 _ pco1_0 HC0.out A5.out).mono ?_); rintro e w8 ⟨v105, rfl, ho0, hb⟩; have HO106 := Aside0.mk (Kd.S_lower ho0 (below_size pbb2_9)); replace HB := Aside0.mk (below_step pbb2_9 hb); (try clear hb); (try clear hb2); (try clear hk); (try clear hi); (try clear ho0)))
   repeat (go_quiet (first | (go_at_call 12; (with_reducible refine (F12.calls k _ _ l0 true _ pco1_0 HC0.out A3.out).mono ?_); rintro e w' ⟨rfl, ⟨nd, rfl⟩⟩; (try first | exact ⟨rfl, _, World.drewN_drewN _ _ _⟩ | exact ⟨rfl, _, Eq.trans (World.drewN_drewN _ _ _) (congrArg (World.drewN _) (Nat.add_assoc _ _ _))⟩)) | (go_at_call 25; (with_reducible refine (F25.calls _ _ l0 t103 t104 _ pco1_0 HC0.out A5.out).mono ?_); rintro e w8 ⟨v105, rfl, ho0, hb⟩; have HO106 := Aside0.mk (Kd.S_lower ho0 (below_size pbb2_9)); replace HB := Aside0.mk (below_step pbb2_9 hb); (try clear hb); (try clear hb2); (try clear hk); (try clear hi); (try clear ho0))); go_upto_region 6 with (first | (go_at_call 12; (with_reducible refine (F12.calls k _ _ l0 true _ pco1_0 HC0.out A3.out).mono ?_); rintro e w' ⟨rfl, ⟨nd, rfl⟩⟩; (try first | exact ⟨rfl, _, World.drewN_drewN _ _ _⟩ | exact ⟨rfl, _, Eq.trans (World.drewN_drewN _ _ _) (congrArg (World.drewN _) (Nat.add_assoc _ _ _))⟩)) | (go_at_call 25; (with_reducible refine (F25.calls _ _ l0 t103 t104 _ pco1_0 HC0.out A5.out).mono ?_); rintro e w8 ⟨v105, rfl, ho0, hb⟩; have HO106 := Aside0.mk (Kd.S_lower ho0 (below_size pbb2_9)); replace HB := Aside0.mk (below_step pbb2_9 hb); (try clear hb); (try clear hb2); (try clear hk); (try clear hi); (try clear ho0))))
   (try simp only [Act.put, List.setIfInBounds_toArray, List.set_cons_zero, List.set_cons_succ])
   go_cut [42] (fun v42 wc => ∃ (kq : Nat) (x42_6 : Bool), v42 = .bool x42_6 ∧ Aside0 (F9.j0 kq l0 t103 x42_6 l1 = some r) ∧ Aside0 (kq ≤ k) ∧ Aside0 (Kd.S k24 24 wc w.heap.size (fun _ => True) v105 t103) ∧ Aside0 (Below w.heap.size w wc))
   case first =>
    have H := HC7.out; clear HC7; obtain ⟨t108, A90, H⟩ := bnd H; have A9 := Aside0.mk A90; clear A90; obtain ⟨t109, A100, H⟩ := bnd H; have A10 := Aside0.mk A100; clear A100
    by_cases c11 : (t108 != t109) = true
    ·rw [if_pos c11] at H; have c11b0 : (t108 != t109) = true := c11; (try (have c11b1 : decide (t108 = t109) = false := by simpa using c11)); (try (have c11b2 : (t108 == t109) = false := by simpa using c11)); (try (have c11b3 : ¬ (t108 = t109) := by simpa using c11)); clear c11; (first | rw [c11b0] | (simp only [i64_w, i32_w]; rw [c11b0]) | skip); have H' := Aside0.mk H; clear H; obtain ⟨Ao12, co12, eo12⟩ := Kd.S_slice HO106.out; subst eo12
     go_wp2_with (first | (go_at_call 23; (with_reducible refine (F23.calls _ _ t103 t108 _ pco1_1 pco1_2 A9.out).mono ?_); rintro e w13 ⟨rfl, hb⟩; replace HO106 := Aside0.mk (Kd.S_below pco1_3 hb); replace HB := Aside0.mk (below_step pbb2_9 hb); (try clear hb); (try clear hb2); (try clear hk); (try clear hi)) | (go_at_call 23; (with_reducible refine (F23.calls _ _ l0 t109 _ pco1_4 HC0.out A10.out).mono ?_); rintro e w14 ⟨rfl, hb⟩; replace HO106 := Aside0.mk (Kd.S_below pco1_3 hb); replace HB := Aside0.mk (below_step pbb2_9 hb); (try clear hb); (try clear hb2); (try clear hk); (try clear hi)))
     repeat (go_quiet (first | (go_at_call 23; (with_reducible refine (F23.calls _ _ t103 t108 _ pco1_1 pco1_2 A9.out).mono ?_); rintro e w13 ⟨rfl, hb⟩; replace HO106 := Aside0.mk (Kd.S_below pco1_3 hb); replace HB := Aside0.mk (below_step pbb2_9 hb); (try clear hb); (try clear hb2); (try clear hk); (try clear hi)) | (go_at_call 23; (with_reducible refine (F23.calls _ _ l0 t109 _ pco1_4 HC0.out A10.out).mono ?_); rintro e w14 ⟨rfl, hb⟩; replace HO106 := Aside0.mk (Kd.S_below pco1_3 hb); replace HB := Aside0.mk (below_step pbb2_9 hb); (try clear hb); (try clear hb2); (try clear hk); (try clear hi))); try go_wp2_with (first | (go_at_call 23; (with_reducible refine (F23.calls _ _ t103 t108 _ pco1_1 pco1_2 A9.out).mono ?_); rintro e w13 ⟨rfl, hb⟩; replace HO106 := Aside0.mk (Kd.S_below pco1_3 hb); replace HB := Aside0.mk (below_step pbb2_9 hb); (try clear hb); (try clear hb2); (try clear hk); (try clear hi)) | (go_at_call 23; (with_reducible refine (F23.calls _ _ l0 t109 _ pco1_4 HC0.out A10.out).mono ?_); rintro e w14 ⟨rfl, hb⟩; replace HO106 := Aside0.mk (Kd.S_below pco1_3 hb); replace HB := Aside0.mk (below_step pbb2_9 hb); (try clear hb); (try clear hb2); (try clear hk); (try clear hi))))
     go_meet
     case rel => exact ⟨_, (true), pbb2_3, H', ⟨pbb6_2⟩, ⟨pco1_3⟩, ⟨pbb2_9⟩⟩
    ·rw [if_neg c11] at H; have c11b0 : (t108 != t109) = false := by simpa using c11
     (try (have c11b1 : decide (t108 = t109) = true := by simpa using c11)); (try (have c11b2 : (t108 == t109) = true := by simpa using c11)); clear c11; (first | rw [c11b0] | (simp only [i64_w, i32_w]; rw [c11b0]) | skip); have H' := Aside0.mk H; clear H; obtain ⟨Ao15, co15, eo15⟩ := Kd.S_slice HO106.out; subst eo15
     go_wp2_with (first | (go_at_call 23; (with_reducible refine (F23.calls _ _ t103 t108 _ pco1_1 pco1_2 A9.out).mono ?_); rintro e w16 ⟨rfl, hb⟩; replace HO106 := Aside0.mk (Kd.S_below pco1_3 hb); replace HB := Aside0.mk (below_step pbb2_9 hb); (try clear hb); (try clear hb2); (try clear hk); (try clear hi)) | (go_at_call 23; (with_reducible refine (F23.calls _ _ l0 t109 _ pco1_4 HC0.out A10.out).mono ?_); rintro e w17 ⟨rfl, hb⟩; replace HO106 := Aside0.mk (Kd.S_below pco1_3 hb); replace HB := Aside0.mk (below_step pbb2_9 hb); (try clear hb); (try clear hb2); (try clear hk); (try clear hi)))
     repeat (go_quiet (first | (go_at_call 23; (with_reducible refine (F23.calls _ _ t103 t108 _ pco1_1 pco1_2 A9.out).mono ?_); rintro e w16 ⟨rfl, hb⟩; replace HO106 := Aside0.mk (Kd.S_below pco1_3 hb); replace HB := Aside0.mk (below_step pbb2_9 hb); (try clear hb); (try clear hb2); (try clear hk); (try clear hi)) | (go_at_call 23; (with_reducible refine (F23.calls _ _ l0 t109 _ pco1_4 HC0.out A10.out).mono ?_); rintro e w17 ⟨rfl, hb⟩; replace HO106 := Aside0.mk (Kd.S_below pco1_3 hb); replace HB := Aside0.mk (below_step pbb2_9 hb); (try clear hb); (try clear hb2); (try clear hk); (try clear hi))); try go_wp2_with (first | (go_at_call 23; (with_reducible refine (F23.calls _ _ t103 t108 _ pco1_1 pco1_2 A9.out).mono ?_); rintro e w16 ⟨rfl, hb⟩; replace HO106 := Aside0.mk (Kd.S_below pco1_3 hb); replace HB := Aside0.mk (below_step pbb2_9 hb); (try clear hb); (try clear hb2); (try clear hk); (try clear hi)) | (go_at_call 23; (with_reducible refine (F23.calls _ _ l0 t109 _ pco1_4 HC0.out A10.out).mono ?_); rintro e w17 ⟨rfl, hb⟩; replace HO106 := Aside0.mk (Kd.S_below pco1_3 hb); replace HB := Aside0.mk (below_step pbb2_9 hb); (try clear hb); (try clear hb2); (try clear hk); (try clear hi))))
     go_meet
     case rel => exact ⟨_, (decide ((t103.length : Int) > (l0.length : Int))), pbb2_3, H', ⟨pbb6_2⟩, ⟨pco1_3⟩, ⟨pbb2_9⟩⟩
   case rest =>
    clear HC7; (try clear c1); (try clear p2); (try clear c4); (try clear c6); (try clear c6b0); (try clear c6b1); (try clear c9); (try clear c11); (try clear c11b0); (try clear c11b1); (try clear c11b2); obtain ⟨kq, x42_6, rfl, HA, HJ6, HO_3, HB⟩ := hcut
    cases kq with
    | zero => exact absurd HA.out (by simp [F9.j0])
    | succ kj6 =>
     have H := HA.out; clear HA; simp only [F9.j0] at H
     by_cases c18 : x42_6 = true
     ·subst c18; rw [if_pos rfl] at H; exact absurd H (by simp)
     ·replace c18 := Bool.eq_false_iff.mpr c18; subst c18; rw [if_neg (show ¬ (false = true) by decide)] at H; obtain ⟨⟨t110, t111⟩, A190, H⟩ := bnd H; (try dsimp only at H); have A19 := Aside0.mk A190; clear A190; have H' := Aside0.mk H; clear H; obtain ⟨Ao20, co20, eo20⟩ := Kd.S_slice HO_3.out; subst eo20
      go_wp2_with (first | (go_at_call 18; (with_reducible refine (F18.calls _ _ t103 t110 t111 _ pco1_5 pco1_6 A19.out).mono ?_); rintro e w21 ⟨v112, rfl, ho0, hb⟩; replace HO_3 := Aside0.mk (Kd.S_below pco1_7 hb); have HO113 := Aside0.mk (Kd.R_lower ho0 (below_size pbb2_9)); replace HB := Aside0.mk (below_step pbb2_9 hb); (try clear hb); (try clear hb2); (try clear hk); (try clear hi); (try clear ho0)))
      repeat (go_quiet (first | (go_at_call 18; (with_reducible refine (F18.calls _ _ t103 t110 t111 _ pco1_5 pco1_6 A19.out).mono ?_); rintro e w21 ⟨v112, rfl, ho0, hb⟩; replace HO_3 := Aside0.mk (Kd.S_below pco1_7 hb); have HO113 := Aside0.mk (Kd.R_lower ho0 (below_size pbb2_9)); replace HB := Aside0.mk (below_step pbb2_9 hb); (try clear hb); (try clear hb2); (try clear hk); (try clear hi); (try clear ho0))); try go_wp2_with (first | (go_at_call 18; (with_reducible refine (F18.calls _ _ t103 t110 t111 _ pco1_5 pco1_6 A19.out).mono ?_); rintro e w21 ⟨v112, rfl, ho0, hb⟩; replace HO_3 := Aside0.mk (Kd.S_below pco1_7 hb); have HO113 := Aside0.mk (Kd.R_lower ho0 (below_size pbb2_9)); replace HB := Aside0.mk (below_step pbb2_9 hb); (try clear hb); (try clear hb2); (try clear hk); (try clear hi); (try clear ho0))))
      go_loopg [7] kj6 (fun kq v7 w' => ∃ (x7_2 : Int), v7 = .int .i64 x7_2 ∧ Aside0 (F9.l0 kq l0 t103 t110 t111 x7_2 l1 = some r) ∧ Aside0 (kq ≤ kj6) ∧ Aside0 (Kd.S k24 24 w' w.heap.size (fun _ => True) (.slice Ao20 t103.length co20) t103) ∧ Aside0 (Kd.R k61 61 w' w.heap.size (fun _ => True) v112 t110) ∧ Aside0 (Below w.heap.size w w'))
      case atStart => exact ⟨(0), pbb2_3, H', ⟨Nat.le_refl _⟩, ⟨pco1_7⟩, ⟨by (with_reducible repeat (first | apply Kd.R_alloc | apply Kd.R_drewN | apply Kd.R_drew)); exact HO113.out⟩, ⟨pbb2_9⟩⟩
      case round =>
       clear H'; (try clear c1); (try clear p2); (try clear c4); (try clear c6); (try clear c6b0); (try clear c6b1); (try clear c9); (try clear c11); (try clear c11b0); (try clear c11b1); (try clear c11b2); (try clear c18); (try clear p2); obtain ⟨x7_2, rfl, HA, HK2, HO_3, HO_5, HB⟩ := hrel
       cases gk with
       | zero => exact absurd HA.out (by simp [F9.l0])
       | succ k2 =>
        have H := HA.out; clear HA; simp only [F9.l0] at H; have HC22 := Aside0.mk H; clear H
        go_upto_region 10 with (fail)
        repeat (go_quiet (fail); go_upto_region 10 with (fail))
        go_cut [55] (fun v55 wc => ∃ (kq : Nat) (x55_21 : Bool), v55 = .bool x55_21 ∧ Aside0 (F9.j2 kq l0 t103 t110 t111 x7_2 x55_21 l1 = some r) ∧ Aside0 (kq ≤ k2) ∧ Aside0 (Kd.S k24 24 wc w.heap.size (fun _ => True) (.slice Ao20 t103.length co20) t103) ∧ Aside0 (Kd.R k61 61 wc w.heap.size (fun _ => True) v112 t110) ∧ Aside0 (Below w.heap.size w wc))
        case first =>
         have H := HC22.out; clear HC22
         by_cases c23 : x7_2 < (t110.length : Int)
         ·rw [if_pos c23] at H; have c23b0 := decide_eq_true c23; clear c23; (first | rw [c23b0] | (simp only [i64_w, i32_w]; rw [c23b0]) | skip); have H' := Aside0.mk H; clear H; obtain ⟨Ao24, co24, eo24⟩ := Kd.R_slice HO_5.out; subst eo24
          go_wp2
          repeat (go_quiet (fail); try go_wp2)
          go_meet
          case rel => exact ⟨_, ((t111 == 0)), pbb2_3, H', ⟨by have := HJ6.out; have := HK2.out; first | omega | exact Nat.le_refl _⟩, ⟨pco1_7⟩, ⟨pco1_8⟩, ⟨pbb2_9⟩⟩
         ·rw [if_neg c23] at H; have c23b0 := decide_eq_false c23; clear c23; (first | rw [c23b0] | (simp only [i64_w, i32_w]; rw [c23b0]) | skip); have H' := Aside0.mk H; clear H; obtain ⟨Ao25, co25, eo25⟩ := Kd.R_slice HO_5.out; subst eo25
          go_wp2
          repeat (go_quiet (fail); try go_wp2)
          go_meet
          case rel => exact ⟨_, (false), pbb2_3, H', ⟨by have := HJ6.out; have := HK2.out; first | omega | exact Nat.le_refl _⟩, ⟨pco1_7⟩, ⟨pco1_8⟩, ⟨pbb2_9⟩⟩
        case rest =>
         clear HC22; (try clear c1); (try clear c2); (try clear p2); (try clear c4); (try clear c6); (try clear c6b0); (try clear c6b1); (try clear c9); (try clear c11); (try clear c11b0); (try clear c11b1); (try clear c11b2); (try clear c18); (try clear c23); (try clear c23b0); (try clear p2); obtain ⟨kq, x55_21, rfl, HA, HJ21, HO_3, HO_5, HB⟩ := hcut
         cases kq with
         | zero => exact absurd HA.out (by simp [F9.j2])
         | succ kj21 =>
          have H := HA.out; clear HA; simp only [F9.j2] at H
          by_cases c26 : x55_21 = true
          ·subst c26; rw [if_pos rfl] at H; obtain ⟨⟨t120, t121⟩, A270, H⟩ := bnd H; (try dsimp only at H); have A27 := Aside0.mk A270; clear A270; have H' := Aside0.mk H; clear H
           go_wp2_with (first | (go_at_call 18; (with_reducible refine (F18.calls _ _ l0 t120 t121 _ pco1_4 HC0.out A27.out).mono ?_); rintro e w28 ⟨v122, rfl, ho0, hb⟩; replace HO_3 := Aside0.mk (Kd.S_below pco1_7 hb); have HO123 := Aside0.mk (Kd.R_lower (Kd.R_new' ho0 (Kd.R_lt pco1_8)) (below_size pbb2_9)); replace HO_5 := Aside0.mk (Kd.R_elder' pco1_8 (Kd.R_base ho0) hb); replace HB := Aside0.mk (below_step pbb2_9 hb); (try clear hb); (try clear hb2); (try clear hk); (try clear hi); (try clear ho0)))
           repeat (go_quiet (first | (go_at_call 18; (with_reducible refine (F18.calls _ _ l0 t120 t121 _ pco1_4 HC0.out A27.out).mono ?_); rintro e w28 ⟨v122, rfl, ho0, hb⟩; replace HO_3 := Aside0.mk (Kd.S_below pco1_7 hb); have HO123 := Aside0.mk (Kd.R_lower (Kd.R_new' ho0 (Kd.R_lt pco1_8)) (below_size pbb2_9)); replace HO_5 := Aside0.mk (Kd.R_elder' pco1_8 (Kd.R_base ho0) hb); replace HB := Aside0.mk (below_step pbb2_9 hb); (try clear hb); (try clear hb2); (try clear hk); (try clear hi); (try clear ho0))); try go_wp2_with (first | (go_at_call 18; (with_reducible refine (F18.calls _ _ l0 t120 t121 _ pco1_4 HC0.out A27.out).mono ?_); rintro e w28 ⟨v122, rfl, ho0, hb⟩; replace HO_3 := Aside0.mk (Kd.S_below pco1_7 hb); have HO123 := Aside0.mk (Kd.R_lower (Kd.R_new' ho0 (Kd.R_lt pco1_8)) (below_size pbb2_9)); replace HO_5 := Aside0.mk (Kd.R_elder' pco1_8 (Kd.R_base ho0) hb); replace HB := Aside0.mk (below_step pbb2_9 hb); (try clear hb); (try clear hb2); (try clear hk); (try clear hi); (try clear ho0))))
           go_loopg [10, 11] kj21 (fun kq v10 v11 w' => ∃ (x10_4 : Bool) (x11_4 : Int), v10 = .bool x10_4 ∧ v11 = .int .i64 x11_4 ∧ Aside0 (F9.l1 kq l0 t103 t110 t111 x7_2 t120 t121 x10_4 x11_4 l1 = some r) ∧ Aside0 (kq ≤ kj21) ∧ Aside0 (Kd.S k24 24 w' w.heap.size (fun _ => True) (.slice Ao20 t103.length co20) t103) ∧ Aside0 (Kd.R k61 61 w' w.heap.size (fun k_ => some k_ ≠ (v122 : Value).ownBlock) v112 t110) ∧ Aside0 (Kd.R k61 61 w' w.heap.size (fun k_ => some k_ ≠ (v112 : Value).ownBlock) v122 t120) ∧ Aside0 (Below w.heap.size w w'))
           case atStart => exact ⟨(false), (0), pbb2_3, pbb2_3, H', ⟨Nat.le_refl _⟩, ⟨pco1_7⟩, ⟨by (with_reducible repeat (first | apply Kd.R_alloc | apply Kd.R_drewN | apply Kd.R_drew)); exact Kd.R_mono HO_5.out (fun _ hk => hk.2)⟩, ⟨by (with_reducible repeat (first | apply Kd.R_alloc | apply Kd.R_drewN | apply Kd.R_drew)); exact Kd.R_mono HO123.out (fun _ hk => hk.2)⟩, ⟨pbb2_9⟩⟩
           case round =>
            clear H'; (try clear c1); (try clear c2); (try clear p2); (try clear c4); (try clear c6); (try clear c6b0); (try clear c6b1); (try clear c9); (try clear c11); (try clear c11b0); (try clear c11b1); (try clear c11b2); (try clear c18); (try clear c23); (try clear c23b0); (try clear c26); (try clear p2); obtain ⟨x10_4, x11_4, rfl, rfl, HA, HK4, HO_3, HO_5, HO_8, HB⟩ := hrel
            cases gk with
            | zero => exact absurd HA.out (by simp [F9.l1])
            | succ k4 =>
             have H := HA.out; clear HA; simp only [F9.l1] at H
             by_cases c29 : x11_4 < (t120.length : Int)
             ·rw [if_pos c29] at H; have c29b0 := decide_eq_true c29; clear c29
              by_cases c30 : x10_4 = true
              ·subst c30; rw [if_pos rfl] at H; have H' := Aside0.mk H; clear H; obtain ⟨Ao31, co31, eo31⟩ := Kd.R_slice HO_8.out; subst eo31
               go_wp2
               repeat (go_quiet (fail); try go_wp2)
               go_roundg k4
               case measure => have := HJ6.out; have := HK2.out; have := HJ21.out; have := HK4.out; omega
               case rel => exact ⟨(true), (wrap64 (x11_4 + 1)), pbb2_3, pbb2_3, H', ⟨pco1_9⟩, ⟨pco1_7⟩, ⟨pco1_8⟩, ⟨pco1_10⟩, ⟨pbb2_9⟩⟩
              ·replace c30 := Bool.eq_false_iff.mpr c30; subst c30; rw [if_neg (show ¬ (false = true) by decide)] at H
               by_cases c32 : 0 ≤ x11_4
               ·rw [if_pos c32] at H; have c32b0 := decide_eq_true c32; clear c32
                by_cases c33 : 0 ≤ x7_2
                ·rw [if_pos c33] at H; have c33b0 := decide_eq_true c33; clear c33
                 by_cases c34 : x7_2 < (t110.length : Int)
                 ·rw [if_pos c34] at H; have c34b0 := decide_eq_true c34; clear c34; have H' := Aside0.mk H; clear H; obtain ⟨Ao35, co35, eo35⟩ := Kd.R_slice HO_8.out; subst eo35; have p124 : 0 ≤ (x11_4 : Int) := of_decide_eq_true pbb2_6; have q124 : x11_4 < (t120.length : Int) := of_decide_eq_true pbb2_6; obtain ⟨ad124, e124, hx124_0, hx124_1, hx124_2⟩ := at_T61 (Kd.R_reads' HO_8.out).2.2 x11_4 p124 q124
                  cases e124
                  replace p124 := eq_true p124; replace q124 := eq_true q124; obtain ⟨Ao36, co36, eo36⟩ := Kd.R_slice HO_5.out; subst eo36; have p125 : 0 ≤ (x7_2 : Int) := of_decide_eq_true pbb2_6; have q125 : x7_2 < (t110.length : Int) := of_decide_eq_true pbb2_6; obtain ⟨ad125, e125, hx125_0, hx125_1, hx125_2⟩ := at_T61 (Kd.R_reads' HO_5.out).2.2 x7_2 p125 q125
                  cases e125
                  replace p125 := eq_true p125; replace q125 := eq_true q125
                  go_wp2
                  repeat (go_quiet (fail); try go_wp2)
                  go_roundg k4
                  case measure => have := HJ6.out; have := HK2.out; have := HJ21.out; have := HK4.out; omega
                  case rel => exact ⟨(((((rd_T61 t120 x11_4).f0).toList) == (((rd_T61 t110 x7_2).f0).toList) && (((rd_T61 t120 x11_4).f1) == ((rd_T61 t110 x7_2).f1) && (((rd_T61 t120 x11_4).f2) == ((rd_T61 t110 x7_2).f2))))), (wrap64 (x11_4 + 1)), pbb2_3, pbb2_3, H', ⟨pco1_9⟩, ⟨pco1_7⟩, ⟨pco1_8⟩, ⟨pco1_10⟩, ⟨pbb2_9⟩⟩
                 ·rw [if_neg c34] at H; exact absurd H (by simp)
                ·rw [if_neg c33] at H; exact absurd H (by simp)
               ·rw [if_neg c32] at H; exact absurd H (by simp)
             ·rw [if_neg c29] at H; have c29b0 := decide_eq_false c29; clear c29
              by_cases c37 : t121 = 0
              ·rw [if_pos c37] at H; have c37b0 := bT_ c37; have c37b1 := bF_ c37; clear c37
               by_cases c38 : x10_4 = true
               ·subst c38; rw [if_pos rfl] at H; have H' := Aside0.mk H; clear H; obtain ⟨Ao39, co39, eo39⟩ := Kd.R_slice HO_8.out; subst eo39
                go_wp2
                repeat (go_quiet (fail); try go_wp2)
                go_roundg k4
                case measure => have := HJ6.out; have := HK2.out; have := HJ21.out; have := HK4.out; omega
                case rel => exact ⟨(wrap64 (x7_2 + 1)), pbb2_3, H', ⟨pco1_9⟩, ⟨pco1_7⟩, ⟨by (with_reducible repeat (first | apply Kd.R_alloc | apply Kd.R_drewN | apply Kd.R_drew)); exact Kd.R_mono HO_5.out (fun _ hk => trivial)⟩, ⟨pbb2_9⟩⟩
               ·replace c38 := Bool.eq_false_iff.mpr c38; subst c38; rw [if_neg (show ¬ (false = true) by decide)] at H; exact absurd H (by simp)
              ·rw [if_neg c37] at H; have c37b0 := nF_ c37; have c37b1 := nT_ c37; have H' := Aside0.mk H; clear H; obtain ⟨Ao40, co40, eo40⟩ := Kd.R_slice HO_8.out; subst eo40
               go_wp2
               repeat (go_quiet (fail); try go_wp2)
               go_roundg k4
               case measure => have := HJ6.out; have := HK2.out; have := HJ21.out; have := HK4.out; omega
               case rel => exact ⟨(wrap64 (x7_2 + 1)), pbb2_3, H', ⟨pco1_9⟩, ⟨pco1_7⟩, ⟨by (with_reducible repeat (first | apply Kd.R_alloc | apply Kd.R_drewN | apply Kd.R_drew)); exact Kd.R_mono HO_5.out (fun _ hk => trivial)⟩, ⟨pbb2_9⟩⟩
          ·replace c26 := Bool.eq_false_iff.mpr c26; subst c26; rw [if_neg (show ¬ (false = true) by decide)] at H; obtain ⟨⟨t114, t115⟩, A410, H⟩ := bnd H; (try dsimp only at H); have A41 := Aside0.mk A410; clear A410
           by_cases c42 : t115 = 0
           ·rw [if_pos c42] at H; have c42b0 := bT_ c42; have c42b1 := bF_ c42; clear c42; obtain ⟨t118, A430, H⟩ := bnd H; have A43 := Aside0.mk A430; clear A430
            by_cases c44 : t118 = true
            ·subst c44; rw [if_pos rfl] at H; obtain ⟨t119, A450, H⟩ := bnd H; have A45 := Aside0.mk A450; clear A450; obtain rfl := Option.some.inj H
             go_wp2_with (first | (go_at_call 25; (with_reducible refine (F25.calls _ _ t103 t114 t115 _ pco1_5 pco1_6 A41.out).mono ?_); rintro e w46 ⟨v116, rfl, ho0, hb⟩; replace HO_5 := Aside0.mk (Kd.R_below pco1_8 hb); have HO117 := Aside0.mk (Kd.S_lower (Kd.S_new' ho0 (Kd.S_lt pco1_7)) (below_size pbb2_9)); replace HO_3 := Aside0.mk (Kd.S_elder' pco1_7 (Kd.S_base ho0) hb); replace HB := Aside0.mk (below_step pbb2_9 hb); (try clear hb); (try clear hb2); (try clear hk); (try clear hi); (try clear ho0); obtain ⟨Ao47, co47, eo47⟩ := Kd.S_slice HO117.out; subst eo47) | (go_at_call 27; (with_reducible refine (F27.calls kj21 _ _ t114 _ _ t103 true _ pco1_11 (by exact (Kd.S_reads' HO117.out).2.1) pco1_5 pco1_6 A43.out).mono ?_); rintro e w48 ⟨rfl, hb⟩; replace HO_3 := Aside0.mk (Kd.S_below pco1_7 hb); replace HO_5 := Aside0.mk (Kd.R_below pco1_8 hb); replace HO117 := Aside0.mk (Kd.S_below pco1_12 hb); replace HB := Aside0.mk (below_step pbb2_9 hb); (try clear hb); (try clear hb2); (try clear hk); (try clear hi)) | (go_at_call 13; (with_reducible refine (F13.calls kj21 A1 c1 l1 t119 _ pbb6_5 HC1.out A45.out).mono ?_); rintro e w49 ⟨rfl, hb⟩; replace HO_3 := Aside0.mk (Kd.S_below pco1_7 hb); replace HO_5 := Aside0.mk (Kd.R_below pco1_8 hb); replace HO117 := Aside0.mk (Kd.S_below pco1_12 hb); replace HB := Aside0.mk (below_step pbb2_9 hb); (try clear hb); (try clear hb2); (try clear hk); (try clear hi)))
             repeat (go_quiet (first | (go_at_call 25; (with_reducible refine (F25.calls _ _ t103 t114 t115 _ pco1_5 pco1_6 A41.out).mono ?_); rintro e w46 ⟨v116, rfl, ho0, hb⟩; replace HO_5 := Aside0.mk (Kd.R_below pco1_8 hb); have HO117 := Aside0.mk (Kd.S_lower (Kd.S_new' ho0 (Kd.S_lt pco1_7)) (below_size pbb2_9)); replace HO_3 := Aside0.mk (Kd.S_elder' pco1_7 (Kd.S_base ho0) hb); replace HB := Aside0.mk (below_step pbb2_9 hb); (try clear hb); (try clear hb2); (try clear hk); (try clear hi); (try clear ho0); obtain ⟨Ao47, co47, eo47⟩ := Kd.S_slice HO117.out; subst eo47) | (go_at_call 27; (with_reducible refine (F27.calls kj21 _ _ t114 _ _ t103 true _ pco1_11 (by exact (Kd.S_reads' HO117.out).2.1) pco1_5 pco1_6 A43.out).mono ?_); rintro e w48 ⟨rfl, hb⟩; replace HO_3 := Aside0.mk (Kd.S_below pco1_7 hb); replace HO_5 := Aside0.mk (Kd.R_below pco1_8 hb); replace HO117 := Aside0.mk (Kd.S_below pco1_12 hb); replace HB := Aside0.mk (below_step pbb2_9 hb); (try clear hb); (try clear hb2); (try clear hk); (try clear hi)) | (go_at_call 13; (with_reducible refine (F13.calls kj21 A1 c1 l1 t119 _ pbb6_5 HC1.out A45.out).mono ?_); rintro e w49 ⟨rfl, hb⟩; replace HO_3 := Aside0.mk (Kd.S_below pco1_7 hb); replace HO_5 := Aside0.mk (Kd.R_below pco1_8 hb); replace HO117 := Aside0.mk (Kd.S_below pco1_12 hb); replace HB := Aside0.mk (below_step pbb2_9 hb); (try clear hb); (try clear hb2); (try clear hk); (try clear hi))); try go_wp2_with (first | (go_at_call 25; (with_reducible refine (F25.calls _ _ t103 t114 t115 _ pco1_5 pco1_6 A41.out).mono ?_); rintro e w46 ⟨v116, rfl, ho0, hb⟩; replace HO_5 := Aside0.mk (Kd.R_below pco1_8 hb); have HO117 := Aside0.mk (Kd.S_lower (Kd.S_new' ho0 (Kd.S_lt pco1_7)) (below_size pbb2_9)); replace HO_3 := Aside0.mk (Kd.S_elder' pco1_7 (Kd.S_base ho0) hb); replace HB := Aside0.mk (below_step pbb2_9 hb); (try clear hb); (try clear hb2); (try clear hk); (try clear hi); (try clear ho0); obtain ⟨Ao47, co47, eo47⟩ := Kd.S_slice HO117.out; subst eo47) | (go_at_call 27; (with_reducible refine (F27.calls kj21 _ _ t114 _ _ t103 true _ pco1_11 (by exact (Kd.S_reads' HO117.out).2.1) pco1_5 pco1_6 A43.out).mono ?_); rintro e w48 ⟨rfl, hb⟩; replace HO_3 := Aside0.mk (Kd.S_below pco1_7 hb); replace HO_5 := Aside0.mk (Kd.R_below pco1_8 hb); replace HO117 := Aside0.mk (Kd.S_below pco1_12 hb); replace HB := Aside0.mk (below_step pbb2_9 hb); (try clear hb); (try clear hb2); (try clear hk); (try clear hi)) | (go_at_call 13; (with_reducible refine (F13.calls kj21 A1 c1 l1 t119 _ pbb6_5 HC1.out A45.out).mono ?_); rintro e w49 ⟨rfl, hb⟩; replace HO_3 := Aside0.mk (Kd.S_below pco1_7 hb); replace HO_5 := Aside0.mk (Kd.R_below pco1_8 hb); replace HO117 := Aside0.mk (Kd.S_below pco1_12 hb); replace HB := Aside0.mk (below_step pbb2_9 hb); (try clear hb); (try clear hb2); (try clear hk); (try clear hi))))
             go_ret
             exact ⟨pbb2_18, pbb2_9⟩
            ·replace c44 := Bool.eq_false_iff.mpr c44; subst c44; rw [if_neg (show ¬ (false = true) by decide)] at H; exact absurd H (by simp)
           ·rw [if_neg c42] at H; exact absurd H (by simp)
  ·rw [if_neg c6] at H; have c6b0 := nF_ c6; have c6b1 := nT_ c6
   by_cases c50 : (t103.length : Int) = 0
   ·rw [if_pos c50] at H; have c50b0 := bT_ c50; have c50b1 := bF_ c50; clear c50; obtain ⟨t107, A510, H⟩ := bnd H; have A51 := Aside0.mk A510; clear A510; obtain rfl := Option.some.inj H; go_enter Tryd.func9, Tryd.ntmps9
    go_wp2_with (first | (go_at_call 12; (with_reducible refine (F12.calls k _ _ l0 true _ pco1_0 HC0.out A3.out).mono ?_); rintro e w' ⟨rfl, ⟨nd, rfl⟩⟩; (try first | exact ⟨rfl, _, World.drewN_drewN _ _ _⟩ | exact ⟨rfl, _, Eq.trans (World.drewN_drewN _ _ _) (congrArg (World.drewN _) (Nat.add_assoc _ _ _))⟩)) | (go_at_call 25; (with_reducible refine (F25.calls _ _ l0 t103 t104 _ pco1_0 HC0.out A5.out).mono ?_); rintro e w52 ⟨v105, rfl, ho0, hb⟩; have HO106 := Aside0.mk (Kd.S_lower ho0 (below_size pbb2_9)); replace HB := Aside0.mk (below_step pbb2_9 hb); (try clear hb); (try clear hb2); (try clear hk); (try clear hi); (try clear ho0); obtain ⟨Ao53, co53, eo53⟩ := Kd.S_slice HO106.out; subst eo53) | (go_at_call 13; (with_reducible refine (F13.calls k A1 c1 l1 t107 _ pbb6_5 HC1.out A51.out).mono ?_); rintro e w54 ⟨rfl, hb⟩; replace HO106 := Aside0.mk (Kd.S_below pco1_3 hb); replace HB := Aside0.mk (below_step pbb2_9 hb); (try clear hb); (try clear hb2); (try clear hk); (try clear hi)))
    repeat (go_quiet (first | (go_at_call 12; (with_reducible refine (F12.calls k _ _ l0 true _ pco1_0 HC0.out A3.out).mono ?_); rintro e w' ⟨rfl, ⟨nd, rfl⟩⟩; (try first | exact ⟨rfl, _, World.drewN_drewN _ _ _⟩ | exact ⟨rfl, _, Eq.trans (World.drewN_drewN _ _ _) (congrArg (World.drewN _) (Nat.add_assoc _ _ _))⟩)) | (go_at_call 25; (with_reducible refine (F25.calls _ _ l0 t103 t104 _ pco1_0 HC0.out A5.out).mono ?_); rintro e w52 ⟨v105, rfl, ho0, hb⟩; have HO106 := Aside0.mk (Kd.S_lower ho0 (below_size pbb2_9)); replace HB := Aside0.mk (below_step pbb2_9 hb); (try clear hb); (try clear hb2); (try clear hk); (try clear hi); (try clear ho0); obtain ⟨Ao53, co53, eo53⟩ := Kd.S_slice HO106.out; subst eo53) | (go_at_call 13; (with_reducible refine (F13.calls k A1 c1 l1 t107 _ pbb6_5 HC1.out A51.out).mono ?_); rintro e w54 ⟨rfl, hb⟩; replace HO106 := Aside0.mk (Kd.S_below pco1_3 hb); replace HB := Aside0.mk (below_step pbb2_9 hb); (try clear hb); (try clear hb2); (try clear hk); (try clear hi))); try go_wp2_with (first | (go_at_call 12; (with_reducible refine (F12.calls k _ _ l0 true _ pco1_0 HC0.out A3.out).mono ?_); rintro e w' ⟨rfl, ⟨nd, rfl⟩⟩; (try first | exact ⟨rfl, _, World.drewN_drewN _ _ _⟩ | exact ⟨rfl, _, Eq.trans (World.drewN_drewN _ _ _) (congrArg (World.drewN _) (Nat.add_assoc _ _ _))⟩)) | (go_at_call 25; (with_reducible refine (F25.calls _ _ l0 t103 t104 _ pco1_0 HC0.out A5.out).mono ?_); rintro e w52 ⟨v105, rfl, ho0, hb⟩; have HO106 := Aside0.mk (Kd.S_lower ho0 (below_size pbb2_9)); replace HB := Aside0.mk (below_step pbb2_9 hb); (try clear hb); (try clear hb2); (try clear hk); (try clear hi); (try clear ho0); obtain ⟨Ao53, co53, eo53⟩ := Kd.S_slice HO106.out; subst eo53) | (go_at_call 13; (with_reducible refine (F13.calls k A1 c1 l1 t107 _ pbb6_5 HC1.out A51.out).mono ?_); rintro e w54 ⟨rfl, hb⟩; replace HO106 := Aside0.mk (Kd.S_below pco1_3 hb); replace HB := Aside0.mk (below_step pbb2_9 hb); (try clear hb); (try clear hb2); (try clear hk); (try clear hi))))
    go_ret
    exact ⟨pbb2_18, pbb2_9⟩
   ·rw [if_neg c50] at H; exact absurd H (by simp)
 ·replace c4 := Bool.eq_false_iff.mpr c4; subst c4; rw [if_neg (show ¬ (false = true) by decide)] at H; obtain ⟨t102, A550, H⟩ := bnd H; have A55 := Aside0.mk A550; clear A550; obtain rfl := Option.some.inj H; go_enter Tryd.func9, Tryd.ntmps9
  go_wp2_with (first | (go_at_call 12; (with_reducible refine (F12.calls k _ _ l0 false _ pco1_0 HC0.out A3.out).mono ?_); rintro e w' ⟨rfl, ⟨nd, rfl⟩⟩; (try first | exact ⟨rfl, _, World.drewN_drewN _ _ _⟩ | exact ⟨rfl, _, Eq.trans (World.drewN_drewN _ _ _) (congrArg (World.drewN _) (Nat.add_assoc _ _ _))⟩)) | (go_at_call 13; (with_reducible refine (F13.calls k A1 c1 l1 t102 _ pbb4_4 HC1.out A55.out).mono ?_); rintro e w56 ⟨rfl, hb⟩; replace HB := Aside0.mk (below_step pbb2_9 hb); (try clear hb); (try clear hb2); (try clear hk); (try clear hi)))
  repeat (go_quiet (first | (go_at_call 12; (with_reducible refine (F12.calls k _ _ l0 false _ pco1_0 HC0.out A3.out).mono ?_); rintro e w' ⟨rfl, ⟨nd, rfl⟩⟩; (try first | exact ⟨rfl, _, World.drewN_drewN _ _ _⟩ | exact ⟨rfl, _, Eq.trans (World.drewN_drewN _ _ _) (congrArg (World.drewN _) (Nat.add_assoc _ _ _))⟩)) | (go_at_call 13; (with_reducible refine (F13.calls k A1 c1 l1 t102 _ pbb4_4 HC1.out A55.out).mono ?_); rintro e w56 ⟨rfl, hb⟩; replace HB := Aside0.mk (below_step pbb2_9 hb); (try clear hb); (try clear hb2); (try clear hk); (try clear hi))); try go_wp2_with (first | (go_at_call 12; (with_reducible refine (F12.calls k _ _ l0 false _ pco1_0 HC0.out A3.out).mono ?_); rintro e w' ⟨rfl, ⟨nd, rfl⟩⟩; (try first | exact ⟨rfl, _, World.drewN_drewN _ _ _⟩ | exact ⟨rfl, _, Eq.trans (World.drewN_drewN _ _ _) (congrArg (World.drewN _) (Nat.add_assoc _ _ _))⟩)) | (go_at_call 13; (with_reducible refine (F13.calls k A1 c1 l1 t102 _ pbb4_4 HC1.out A55.out).mono ?_); rintro e w56 ⟨rfl, hb⟩; replace HB := Aside0.mk (below_step pbb2_9 hb); (try clear hb); (try clear hb2); (try clear hk); (try clear hi))))
  go_ret
  exact ⟨pbb2_18, pbb2_9⟩
end Go.Proofs.YtjeecehhcajfaaaDoor.M
end
section
namespace Go.Proofs.YtjeecehhcajfaaaDoor.M
open Go.RowKit Go.Proofs.YtjeecehhcajfaaaDoorW.PrintWords Go.Proofs.YtjeecehhcajfaaaDoorW.PrintLast Go.Proofs.YtjeecehhcajfaaaDoorW.PrintMore
attribute [local go_sem] max2_int min2_int max_two min_two max_three min_three max_four min_four
set_option linter.unusedVariables false
set_option linter.unusedSimpArgs false
/-- THE ONE PURE STATEMENT of F9. -/
def F9.Pure : Prop := ∀ (x0 : List (S24)), (x0.length * 104 ≤ 140737488351232 ∧ ∀ y0_ ∈ x0, G24 y0_) → ∃ k, F9.f k x0 months = some true
end Go.Proofs.YtjeecehhcajfaaaDoor.M
end
section
namespace Go.Proofs.YtjeecehhcajfaaaDoor.M
open Go.RowKit Go.Proofs.YtjeecehhcajfaaaDoorW.PrintWords Go.Proofs.YtjeecehhcajfaaaDoorW.PrintLast
set_option linter.unusedVariables false
set_option linter.unusedSimpArgs false
def bl (b : ByteArray) : List UInt8 := b.data.toList
theorem bl_app (a b : ByteArray) : bl (a ++ b) = bl a ++ bl b := by
 unfold bl; rw [ByteArray.data_append, Array.toList_append]
theorem bl_inj {a b : ByteArray} (h : bl a = bl b) : a = b := by
 cases a; cases b; unfold bl at h; simp only at h; rw [Array.toList_inj.1 h]
theorem bl_len (b : ByteArray) : (bl b).length = b.size := by
 unfold bl; rw [Array.length_toList]; rfl
theorem digL_app : ∀ (k m : Nat) (acc : List UInt8), digL k m acc = digL k m [] ++ acc
 | 0, m, acc => by simp [digL]
 | k + 1, m, acc => by
  unfold digL
  by_cases c : m / 10 = 0
  ·rw [if_pos c, if_pos c]; rfl
  ·rw [if_neg c, if_neg c, digL_app k _ (_ :: acc), digL_app k _ [_], List.append_assoc]; rfl
theorem digL_ne : ∀ (k m : Nat), ∀ b ∈ digL k m [], b ≠ 58
 | 0, m, b, hb => by simp [digL] at hb
 | k + 1, m, b, hb => by
  have hd : UInt8.ofNat (48 + m % 10) ≠ 58 := by
   intro h; have := congrArg UInt8.toNat h
   simp at this
   omega
  unfold digL at hb
  by_cases c : m / 10 = 0
  ·rw [if_pos c] at hb; rw [List.mem_singleton.1 hb]; exact hd
  ·rw [if_neg c, digL_app] at hb
   rcases List.mem_append.1 hb with h | h
   ·exact digL_ne k _ b h
   ·rw [List.mem_singleton.1 h]; exact hd
def dval (l : List UInt8) : Nat := l.foldl (fun v b => 10 * v + (b.toNat - 48)) 0
theorem dval_snoc (l : List UInt8) (b : UInt8) : dval (l ++ [b]) = 10 * dval l + (b.toNat - 48) := by unfold dval; rw [List.foldl_append]; rfl
theorem dval_dig : ∀ (k m : Nat), m < 10 ^ k → dval (digL k m []) = m
 | 0, m, h => by
  have : m = 0 := by simpa using h
  subst this; rfl
 | k + 1, m, h => by
  have hd : (UInt8.ofNat (48 + m % 10)).toNat = 48 + m % 10 := by simp; omega
  unfold digL
  by_cases c : m / 10 = 0
  ·rw [if_pos c]; have := dval_snoc [] (UInt8.ofNat (48 + m % 10)); rw [List.nil_append] at this; rw [this, hd]; show 10 * 0 + _ = _
   omega
  ·rw [if_neg c, digL_app, dval_snoc, hd, dval_dig k (m / 10) (by rw [Nat.pow_succ] at h; omega)]
   omega
theorem cut58 : ∀ (a b x y : List UInt8), (∀ c ∈ a, c ≠ 58) → (∀ c ∈ b, c ≠ 58) → a ++ 58 :: x = b ++ 58 :: y → a = b ∧ x = y
 | [], [], x, y, _, _, h => ⟨rfl, by simpa using h⟩
 | [], c :: b, x, y, _, hb, h => by
  simp only [List.nil_append, List.cons_append, List.cons.injEq] at h; exact absurd h.1.symm (hb c List.mem_cons_self)
 | c :: a, [], x, y, ha, _, h => by
  simp only [List.nil_append, List.cons_append, List.cons.injEq] at h; exact absurd h.1 (ha c List.mem_cons_self)
 | c :: a, d :: b, x, y, ha, hb, h => by
  simp only [List.cons_append, List.cons.injEq] at h; obtain ⟨e1, e2⟩ := cut58 a b x y (fun z hz => ha z (List.mem_cons_of_mem _ hz)) (fun z hz => hb z (List.mem_cons_of_mem _ hz)) h.2; exact ⟨by rw [h.1, e1], e2⟩
def wordL (b : ByteArray) (r : List UInt8) : List UInt8 := digL 19 b.size [] ++ 58 :: (bl b ++ r)
theorem word_cut {a b : ByteArray} {x y : List UInt8} (ha : a.size < 10 ^ 19) (hb : b.size < 10 ^ 19) (h : wordL a x = wordL b y) : a = b ∧ x = y := by
 unfold wordL at h
 obtain ⟨e1, e2⟩ := cut58 _ _ _ _ (digL_ne _ _) (digL_ne _ _) h
 have e3 : a.size = b.size := by
  have := congrArg dval e1
  rwa [dval_dig _ _ ha, dval_dig _ _ hb] at this
 have e4 := List.append_inj e2 (by rw [bl_len, bl_len, e3]); exact ⟨bl_inj e4.1, e4.2⟩
theorem tag_bl (t : Tg) (r : List UInt8) : bl (tagT t) ++ r = wordL t.f0 (wordL t.f1 r) := by
 unfold tagT wordL
 simp only [bl_app, List.append_assoc]
 rfl
def flatT : List Tg → List UInt8
 | [] => []
 | t :: l => wordL t.f0 (wordL t.f1 (flatT l))
theorem tags_fold : ∀ (l : List Tg) (a : ByteArray), bl (l.foldl (fun a t => a ++ tagT t) a) = bl a ++ flatT l
 | [], a => by simp [flatT]
 | t :: l, a => by
  rw [List.foldl_cons, tags_fold l, bl_app, List.append_assoc, tag_bl]; rfl
theorem tags_bl (l : List Tg) : bl (tagsT l) = flatT l := by
 unfold tagsT
 rw [tags_fold]; rfl
theorem wordL_ne (b : ByteArray) (r : List UInt8) : wordL b r ≠ [] := by
 unfold wordL
 intro h; have := congrArg List.length h
 simp at this
theorem flat_inj : ∀ (l m : List Tg), (∀ t ∈ l, t.f0.size < 10 ^ 19 ∧ t.f1.size < 10 ^ 19) → (∀ t ∈ m, t.f0.size < 10 ^ 19 ∧ t.f1.size < 10 ^ 19) → flatT l = flatT m → l = m
 | [], [], _, _, _ => rfl
 | [], t :: m, _, _, h => absurd h.symm (wordL_ne _ _)
 | t :: l, [], _, _, h => absurd h (wordL_ne _ _)
 | t :: l, u :: m, hl, hm, h => by
  obtain ⟨e1, h2⟩ := word_cut (hl t List.mem_cons_self).1 (hm u List.mem_cons_self).1 h; obtain ⟨e2, h3⟩ := word_cut (hl t List.mem_cons_self).2 (hm u List.mem_cons_self).2 h2; have e3 := flat_inj l m (fun z hz => hl z (List.mem_cons_of_mem _ hz)) (fun z hz => hm z (List.mem_cons_of_mem _ hz)) h3
  cases t; cases u
  simp only at e1 e2; rw [e1, e2, e3]
theorem tags_inj {l m : List Tg} (hl : okTags l) (hm : okTags m) (h : tagsT l = tagsT m) : l = m := by
 have h1 := congrArg bl h; rw [tags_bl, tags_bl] at h1; have hlt : (1000000000000000 : Nat) < 10 ^ 19 := by decide
 exact flat_inj l m (fun t ht => ⟨Nat.lt_of_le_of_lt (hl.2 t ht).1 hlt, Nat.lt_of_le_of_lt (hl.2 t ht).2 hlt⟩) (fun t ht => ⟨Nat.lt_of_le_of_lt (hm.2 t ht).1 hlt, Nat.lt_of_le_of_lt (hm.2 t ht).2 hlt⟩) h1
theorem keyL_eq {x y : Li} (hx : okTags x.f6) (hy : okTags y.f6) : keyL x = keyL y ↔ alikev x y = true := by
 rw [alikev_eq]
 unfold keyL
 simp only [Prod.mk.injEq]; exact ⟨fun h => ⟨h.1, h.2.1, h.2.2.1, h.2.2.2.1, tags_inj hx hy h.2.2.2.2⟩, fun h => ⟨h.1, h.2.1, h.2.2.1, h.2.2.2.1, by rw [h.2.2.2.2]⟩⟩
end Go.Proofs.YtjeecehhcajfaaaDoor.M
end
section
namespace Go.Proofs.YtjeecehhcajfaaaDoor.M
open Go.RowKit Go.Proofs.YtjeecehhcajfaaaDoorW.PrintWords Go.Proofs.YtjeecehhcajfaaaDoorW.PrintLast Go.Proofs.YtjeecehhcajfaaaDoorW.PrintMore
attribute [local go_sem] max2_int min2_int max_two min_two max_three min_three max_four min_four
set_option linter.unusedVariables false
set_option linter.unusedSimpArgs false
def F52.l0 : Nat → List Int → Int → Int → Int → Option (Int × Bool)
  | 0, _, _, _, _ => none
  | k + 1, x0, x4, x5, x6 => if x6 < (x0.length : Int) then (if 0 ≤ x6 then (F52.l0 k x0 (wrap64 (x4 + ((rd x0 x6) / 4294967296))) (wrap64 (x5 + (Go.bits .and .i64 (rd x0 x6) 4294967295))) (wrap64 (x6 + 1))) else (none)) else (if (wrap64 (x4 + (x5 / 4294967296))) < (-2147483648) then (some (0, false)) else (if (wrap64 (x4 + (x5 / 4294967296))) > 2147483647 then (some (0, false)) else (some (wrap64 ((wrap64 ((wrap64 (x4 + (x5 / 4294967296))) * 4294967296)) + (Go.bits .and .i64 x5 4294967295)), true))))
def F52.f (k : Nat) (l0 : List Int) : Option (Int × Bool) := F52.l0 k l0 0 0 0
set_option maxHeartbeats 8000000 in
set_option maxRecDepth 100000 in
theorem F52.calls (k : Nat) (A0 : Option Addr) (c0 : Nat) (l0 : List Int) (r1 : Int) (r2 : Bool) (w : World) (hr0 : Kd.C (Kd.int .i64) w A0 l0.length l0) (hc0 : l0.length ≤ c0) (h : F52.f k l0 = some (r1, r2)) :
    Calls Tryd.prog 52 #[.slice A0 l0.length c0] w fun e w' => e = .returned (.tuple #[.int .i64 r1, .bool r2]) ∧ Drawn0 w w' := by
 have hu3 := Tryd.underlying3; have HR0 := Aside0.mk hr0; have HC0 := Aside0.mk hc0; clear hr0 hc0
 unfold F52.f at h
 have H := h; clear h; have H' := Aside0.mk H; clear H; go_enter Tryd.func52, Tryd.ntmps52
 go_wp2
 go_loopg [4, 5, 6] k (fun kq v4 v5 v6 w' => ∃ (x4_1 : Int) (x5_1 : Int) (x6_1 : Int), v4 = .int .i64 x4_1 ∧ v5 = .int .i64 x5_1 ∧ v6 = .int .i64 x6_1 ∧ Aside0 (F52.l0 kq l0 x4_1 x5_1 x6_1 = some (r1, r2)) ∧ Aside0 (kq ≤ k) ∧ Drawn0 w w')
 case atStart => exact ⟨(0), (0), (0), pbb2_3, pbb2_3, pbb2_3, H', ⟨Nat.le_refl _⟩, pbb2_4⟩
 case round =>
  clear H'; obtain ⟨x4_1, x5_1, x6_1, rfl, rfl, rfl, HA, HK1, ⟨m1, rfl⟩⟩ := hrel
  cases gk with
  | zero => exact absurd HA.out (by simp [F52.l0])
  | succ k1 =>
   have H := HA.out; clear HA; simp only [F52.l0] at H
   by_cases c2 : x6_1 < (l0.length : Int)
   ·rw [if_pos c2] at H; have c2b0 := decide_eq_true c2; clear c2
    by_cases c3 : 0 ≤ x6_1
    ·rw [if_pos c3] at H; have c3b0 := decide_eq_true c3; clear c3; have H' := Aside0.mk H; clear H; have p101 : 0 ≤ (x6_1 : Int) := of_decide_eq_true pbb2_6; have q101 : x6_1 < (l0.length : Int) := of_decide_eq_true pbb2_6; obtain ⟨ad101, e101, hx101_0⟩ := Kd.at_int HR0.out x6_1 p101 q101
     cases e101
     replace p101 := eq_true p101; replace q101 := eq_true q101; have p102 : 0 ≤ (x6_1 : Int) := of_decide_eq_true pbb2_6; have q102 : x6_1 < (l0.length : Int) := of_decide_eq_true pbb2_6; obtain ⟨ad102, e102, hx102_0⟩ := Kd.at_int HR0.out x6_1 p102 q102; obtain rfl : ad101 = ad102 := (by injection e102); replace p102 := eq_true p102; replace q102 := eq_true q102
     go_wp2
     go_roundg k1
     case measure => have := HK1.out; omega
     case rel => exact ⟨(wrap64 (x4_1 + ((rd l0 x6_1) / 4294967296))), (wrap64 (x5_1 + (Go.bits .and .i64 (rd l0 x6_1) 4294967295))), (wrap64 (x6_1 + 1)), pbb2_3, pbb2_3, pbb2_3, H', ⟨pbb2_7⟩, pbb2_4⟩
    ·rw [if_neg c3] at H; exact absurd H (by simp)
   ·rw [if_neg c2] at H; have c2b0 := decide_eq_false c2; clear c2
    by_cases c4 : (wrap64 (x4_1 + (x5_1 / 4294967296))) < (-2147483648)
    ·rw [if_pos c4] at H; have c4b0 := decide_eq_true c4; clear c4; simp only [Option.some.injEq, Prod.mk.injEq] at H; obtain ⟨rfl, rfl⟩ := H
     go_wp2
     go_ret2
     exact ⟨pbb2_3, pbb2_4⟩
    ·rw [if_neg c4] at H; have c4b0 := decide_eq_false c4; clear c4
     by_cases c5 : (wrap64 (x4_1 + (x5_1 / 4294967296))) > 2147483647
     ·rw [if_pos c5] at H; have c5b0 : decide (2147483647 < (wrap64 (x4_1 + (x5_1 / 4294967296)))) = true := decide_eq_true c5; clear c5; simp only [Option.some.injEq, Prod.mk.injEq] at H; obtain ⟨rfl, rfl⟩ := H
      go_wp2
      go_ret2
      exact ⟨pbb2_3, pbb2_4⟩
     ·rw [if_neg c5] at H; have c5b0 : decide (2147483647 < (wrap64 (x4_1 + (x5_1 / 4294967296)))) = false := decide_eq_false c5; clear c5; simp only [Option.some.injEq, Prod.mk.injEq] at H; obtain ⟨rfl, rfl⟩ := H
      go_wp2
      go_ret2
      exact ⟨pbb2_3, pbb2_4⟩
end Go.Proofs.YtjeecehhcajfaaaDoor.M
end
section
namespace Go.Proofs.YtjeecehhcajfaaaDoor.M
open Go.RowKit Go.Proofs.YtjeecehhcajfaaaDoorW.PrintWords Go.Proofs.YtjeecehhcajfaaaDoorW.PrintLast
set_option linter.unusedVariables false
set_option linter.unusedSimpArgs false
def inW (x : Int) : Prop := -9223372036854775808 ≤ x ∧ x ≤ 9223372036854775807
instance (x : Int) : Decidable (inW x) := by unfold inW; infer_instance
def sumv (l : List Int) : Int × Bool := if inW l.sum then (l.sum, true) else (0, false)
theorem sum_bound : ∀ (l : List Int), (∀ x ∈ l, inW x) → -9223372036854775808 * (l.length : Int) ≤ l.sum ∧ l.sum ≤ 9223372036854775808 * (l.length : Int)
 | [], _ => by simp
 | x :: l, h => by
  have h1 := sum_bound l (fun y hy => h y (List.mem_cons_of_mem _ hy)); have h2 := h x List.mem_cons_self
  unfold inW at h2
  simp only [List.sum_cons, List.length_cons]
  omega
theorem two_words (hi lo x : Int) (h0 : 0 ≤ hi) (h1 : hi < 18446744073709551616) (l0 : 0 ≤ lo) (l1 : lo < 18446744073709551616) (hx : inW x) :
  ((hi + x / 9223372036854775808 + (lo + x % 18446744073709551616) / 18446744073709551616) % 18446744073709551616) * 18446744073709551616 + (lo + x) % 18446744073709551616 = (hi * 18446744073709551616 + lo + x) % 340282366920938463463374607431768211456 := by
 unfold inW at hx
 omega
theorem sum_g : ∀ (l : List Int) (hi lo : Int), (∀ x ∈ l, inW x) → 0 ≤ hi → hi < 18446744073709551616 → 0 ≤ lo → lo < 18446744073709551616 →
  0 ≤ (F74.g l hi lo).1 ∧ (F74.g l hi lo).1 < 18446744073709551616 ∧ 0 ≤ (F74.g l hi lo).2 ∧ (F74.g l hi lo).2 < 18446744073709551616 ∧
  (F74.g l hi lo).1 * 18446744073709551616 + (F74.g l hi lo).2 = (hi * 18446744073709551616 + lo + l.sum) % 340282366920938463463374607431768211456
 | [], hi, lo, _, h0, h1, l0, l1 => by
  simp only [F74.g, List.sum_nil]; refine ⟨h0, h1, l0, l1, ?_⟩
  omega
 | x :: l, hi, lo, hx, h0, h1, l0, l1 => by
  have e := two_words hi lo x h0 h1 l0 l1 (hx x List.mem_cons_self); simp only [F74.g, List.sum_cons]; have b1 := Int.emod_nonneg (hi + x / 9223372036854775808 + (lo + x % 18446744073709551616) / 18446744073709551616) (b := 18446744073709551616) (by omega); have b2 := Int.emod_lt_of_pos (hi + x / 9223372036854775808 + (lo + x % 18446744073709551616) / 18446744073709551616) (b := 18446744073709551616) (by omega); have b3 := Int.emod_nonneg (lo + x) (b := 18446744073709551616) (by omega); have b4 := Int.emod_lt_of_pos (lo + x) (b := 18446744073709551616) (by omega); obtain ⟨g1, g2, g3, g4, g5⟩ := sum_g l _ _ (fun y hy => hx y (List.mem_cons_of_mem _ hy)) b1 b2 b3 b4; refine ⟨g1, g2, g3, g4, ?_⟩; rw [g5, e]
  omega
theorem sum_e (H L S : Int) (h0 : 0 ≤ H) (h1 : H < 18446744073709551616) (l0 : 0 ≤ L) (l1 : L < 18446744073709551616) (hT : H * 18446744073709551616 + L = S % 340282366920938463463374607431768211456) (s0 : -170141183460469231731687303715884105728 ≤ S) (s1 : S < 170141183460469231731687303715884105728) :
  F74.e (H, L) = if inW S then (S, true) else (0, false) := by
 unfold F74.e
 simp only; have hw : wrap64 L = if L < 9223372036854775808 then L else L - 18446744073709551616 := by unfold wrap64; split <;> omega
 rw [hw]
 by_cases c : inW S
 ·rw [if_pos c]
  unfold inW at c
  have hL : (if L < 9223372036854775808 then L else L - 18446744073709551616) = S := by split <;> omega
  rw [hL, if_neg (by simp only [ne_eq, Decidable.not_not]; omega)]
 ·rw [if_neg c]
  unfold inW at c
  rw [if_pos ?_]
  split <;> omega
theorem F74.eq (l : List Int) (hl : l.length ≤ 1000000) (hx : ∀ x ∈ l, inW x) : F74.f l = some (sumv l) := by
 unfold F74.f sumv
 rw [if_pos (by omega)]; obtain ⟨g1, g2, g3, g4, g5⟩ := sum_g l 0 0 hx (by omega) (by omega) (by omega) (by omega); have hb := sum_bound l hx; have := sum_e _ _ l.sum g1 g2 g3 g4 (by rw [g5]; congr 1; omega) (by omega) (by omega); rw [← this]
theorem and32 (x : Int) : Go.bits .and .i64 x 4294967295 = x % 4294967296 := by
 have h1 : (BitVec.ofInt 64 x &&& BitVec.ofInt 64 4294967295).toNat = (x % 18446744073709551616).toNat % 4294967296 := by
  rw [BitVec.toNat_and, BitVec.toNat_ofInt, BitVec.toNat_ofInt]; have e : ((4294967295 : Int) % ((2 ^ 64 : Nat) : Int)).toNat = 2 ^ 32 - 1 := by decide
  rw [e, Nat.and_two_pow_sub_one_eq_mod]
  congr 1
 unfold Go.bits
 show IntKind.i64.wrap (((BitVec.ofInt 64 x &&& BitVec.ofInt 64 4294967295).toNat : Nat) : Int) = _; rw [h1, IntKind.wrap_i64]
 omega
theorem refSum.go (l : List Int) (hl : l.length ≤ 1000000) (hx : ∀ x ∈ l, inW x) : ∀ (n i : Nat) (a b : Int), i + n = l.length → -2147483648 * (i : Int) ≤ a → a ≤ 2147483648 * (i : Int) → 0 ≤ b → b ≤ 4294967296 * (i : Int) → a * 4294967296 + b = (l.take i).sum → Ev (fun k => F52.l0 k l a b (i : Int)) (sumv l)
 | 0, i, a, b, h, a0, a1, b0, b1, hs => by
  have ht : l.take i = l := List.take_of_length_le (by omega); rw [ht] at hs; refine Ev.succ ?_; simp only [F52.l0, if_neg (show ¬ (i : Int) < (l.length : Int) by omega)]; have hw : wrap64 (a + b / 4294967296) = a + b / 4294967296 := w64 (by omega) (by omega); rw [hw, and32]
  unfold sumv
  by_cases c1 : a + b / 4294967296 < -2147483648
  ·simp only [if_pos c1, if_neg (show ¬ inW l.sum by unfold inW; omega)]; exact Ev.const _
  ·by_cases c2 : a + b / 4294967296 > 2147483647
   ·simp only [if_neg c1, if_pos c2, if_neg (show ¬ inW l.sum by unfold inW; omega)]; exact Ev.const _
   ·simp only [if_neg c1, if_neg c2, if_pos (show inW l.sum by unfold inW; omega)]; rw [w64 (n := (a + b / 4294967296) * 4294967296) (by omega) (by omega), w64 (by omega) (by omega), show (a + b / 4294967296) * 4294967296 + b % 4294967296 = l.sum by omega]; exact Ev.const _
 | n + 1, i, a, b, h, a0, a1, b0, b1, hs => by
  have hi : i < l.length := by omega
  have hrd : rd l (i : Int) = l[i] := by simp [rd, hi]
  have hxi := hx l[i] (List.getElem_mem hi)
  have hst : (l.take (i + 1)).sum = (l.take i).sum + l[i] := by
   rw [List.take_succ_eq_append_getElem hi, List.sum_append]; simp
  refine Ev.succ ?_; simp only [F52.l0, if_pos (show (i : Int) < (l.length : Int) by omega), if_pos (show (0 : Int) ≤ (i : Int) by omega), hrd, and32]; generalize l[i] = x at hxi hst
  unfold inW at hxi
  rw [w64 (n := a + x / 4294967296) (by omega) (by omega), w64 (n := b + x % 4294967296) (by omega) (by omega), w64 (n := (i : Int) + 1) (by omega) (by omega), show (i : Int) + 1 = ((i + 1 : Nat) : Int) by omega]; exact refSum.go l hl hx n (i + 1) _ _ (by omega) (by omega) (by omega) (by omega) (by omega) (by rw [hst, ← hs]; omega)
theorem refSum.eq (l : List Int) (hl : l.length ≤ 1000000) (hx : ∀ x ∈ l, inW x) : Ev (fun k => F52.f k l) (sumv l) := by
 unfold F52.f
 exact refSum.go l hl hx l.length 0 0 0 (by omega) (by omega) (by omega) (by omega) (by omega) (by simp)
end Go.Proofs.YtjeecehhcajfaaaDoor.M
end
section
namespace Go.Proofs.YtjeecehhcajfaaaDoor.M
open Go.RowKit Go.Proofs.YtjeecehhcajfaaaDoorW.PrintWords Go.Proofs.YtjeecehhcajfaaaDoorW.PrintLast Go.Proofs.YtjeecehhcajfaaaDoorW.PrintMore
attribute [local go_sem] max2_int min2_int max_two min_two max_three min_three max_four min_four
set_option linter.unusedVariables false
set_option linter.unusedSimpArgs false
def F50.l0 : Nat → List (S24) → ByteArray → List Int → List Int → Int → Option (Int × Int × Bool)
  | 0, _, _, _, _, _ => none
  | k + 1, x0, x1, x7, x8, x9 => if x9 < (x0.length : Int) then (if 0 ≤ x9 then (if ((rd_T24 x0 x9).f1).toList = x1.toList then (if x7.length < 17592186044416 then (if x8.length < 17592186044416 then (F50.l0 k x0 x1 (x7 ++ [(rd_T24 x0 x9).f2]) (x8 ++ [(rd_T24 x0 x9).f3]) (wrap64 (x9 + 1))) else (none)) else (none)) else (F50.l0 k x0 x1 x7 x8 (wrap64 (x9 + 1)))) else (none)) else ((F52.f k x7).bind fun bt110 => ((F52.f k x8).bind fun bt112 => (if bt110.2 = true then (some (bt110.1, bt112.1, bt112.2)) else (some (bt110.1, bt112.1, false)))))
def F50.f (k : Nat) (l0 : List (S24)) (a1 : ByteArray) : Option (Int × Int × Bool) := F50.l0 k l0 a1 ([] : List Int) ([] : List Int) 0
set_option maxHeartbeats 8000000 in
set_option maxRecDepth 100000 in
theorem F50.calls (k : Nat) (A0 : Option Addr) (c0 : Nat) (l0 : List (S24)) (a1 : ByteArray) (r1 : Int) (r2 : Int) (r3 : Bool) (w : World) (hr0 : Kd.C k24 w A0 l0.length l0) (hc0 : l0.length ≤ c0) (h : F50.f k l0 a1 = some (r1, r2, r3)) :
    Calls Tryd.prog 50 #[.slice A0 l0.length c0, .string a1] w fun e w' => e = .returned (.tuple #[.int .i64 r1, .int .i64 r2, .bool r3]) ∧ Below w.heap.size w w' := by
 have hu9 := Tryd.underlying9; have hu3 := Tryd.underlying3; have HR0 := Aside0.mk hr0; have HC0 := Aside0.mk hc0; clear hr0 hc0; have HB := Aside0.mk (Below.refl w.heap.size w)
 unfold F50.f at h
 have H := h; clear h; have H' := Aside0.mk H; clear H; go_enter Tryd.func50, Tryd.ntmps50
 go_wp2
 go_loopg [7, 8, 9] k (fun kq v7 v8 v9 w' => ∃ (x7_1 : List Int) (x8_1 : List Int) (x9_1 : Int), v9 = .int .i64 x9_1 ∧ Aside0 (F50.l0 kq l0 a1 x7_1 x8_1 x9_1 = some (r1, r2, r3)) ∧ Aside0 (kq ≤ k) ∧ Aside0 (Kd.R (Kd.int .i64) 3 w' w.heap.size (fun k_ => some k_ ≠ (v8 : Value).ownBlock) v7 x7_1) ∧ Aside0 (Kd.R (Kd.int .i64) 3 w' w.heap.size (fun k_ => some k_ ≠ (v7 : Value).ownBlock) v8 x8_1) ∧ Aside0 (Below w.heap.size w w'))
 case atStart => exact ⟨(([] : List Int)), (([] : List Int)), (0), pbb2_3, H', ⟨Nat.le_refl _⟩, ⟨by first | exact Kd.R_nil _ _ _ _ _ | exact Kd.N_nil _ _ _ _ _ | exact Kd.V_nil _ _ _ _ _ | exact Kd.Q_nil _ _ _ _ _ | exact Kd.S_nil _ _ _ _ _⟩, ⟨by first | exact Kd.R_nil _ _ _ _ _ | exact Kd.N_nil _ _ _ _ _ | exact Kd.V_nil _ _ _ _ _ | exact Kd.Q_nil _ _ _ _ _ | exact Kd.S_nil _ _ _ _ _⟩, ⟨pbb2_9⟩⟩
 case round =>
  clear H'; (try clear p2); obtain ⟨x7_1, x8_1, x9_1, rfl, HA, HK1, HO_7, HO_8, HB⟩ := hrel
  cases gk with
  | zero => exact absurd HA.out (by simp [F50.l0])
  | succ k1 =>
   have H := HA.out; clear HA; simp only [F50.l0] at H
   by_cases c3 : x9_1 < (l0.length : Int)
   ·rw [if_pos c3] at H; have c3b0 := decide_eq_true c3; clear c3
    by_cases c4 : 0 ≤ x9_1
    ·rw [if_pos c4] at H; have c4b0 := decide_eq_true c4; clear c4
     by_cases c5 : ((rd_T24 l0 x9_1).f1).toList = a1.toList
     ·rw [if_pos c5] at H; have c5b0 := bT_ c5; have c5b1 := bF_ c5; clear c5
      by_cases c6 : x7_1.length < 17592186044416
      ·rw [if_pos c6] at H; have LMc6 := Aside0.mk c6; clear c6; obtain ⟨y103, hy103⟩ : ∃ y_ : List Int, y_ = (x7_1 ++ [(rd_T24 l0 x9_1).f2]) := ⟨_, rfl⟩; replace H : (if x8_1.length < 17592186044416 then (F50.l0 k1 l0 a1 y103 (x8_1 ++ [(rd_T24 l0 x9_1).f3]) (wrap64 (x9_1 + 1))) else (none)) = some (r1, r2, r3) := by first | (rw [hy103]; with_reducible exact H) | (have H2_ := (Option.bind_some _ _).symm.trans H; rw [hy103]; with_reducible exact H2_) | (have H2_ := (Option.bind_some _ _).symm.trans H; with_reducible exact H2_) | with_reducible exact H | (rw [hy103]; exact H) | exact H
       have Ny103 := Aside0.mk hy103; clear hy103
       by_cases c7 : x8_1.length < 17592186044416
       ·rw [if_pos c7] at H; have LMc7 := Aside0.mk c7; clear c7; obtain ⟨y107, hy107⟩ : ∃ y_ : List Int, y_ = (x8_1 ++ [(rd_T24 l0 x9_1).f3]) := ⟨_, rfl⟩; replace H : (F50.l0 k1 l0 a1 y103 y107 (wrap64 (x9_1 + 1))) = some (r1, r2, r3) := by first | (rw [hy107]; with_reducible exact H) | (have H2_ := (Option.bind_some _ _).symm.trans H; rw [hy107]; with_reducible exact H2_) | (have H2_ := (Option.bind_some _ _).symm.trans H; with_reducible exact H2_) | with_reducible exact H | (rw [hy107]; exact H) | exact H
        have Ny107 := Aside0.mk hy107; clear hy107; have H' := Aside0.mk H; clear H; have p101 : 0 ≤ (x9_1 : Int) := of_decide_eq_true pbb2_6; have q101 : x9_1 < (l0.length : Int) := of_decide_eq_true pbb2_6; obtain ⟨ad101, A101_6, c101_6, e101, hx101_0, hx101_1, hx101_2, hx101_3, hx101_4, hx101_5, hx101_6, hl101_6, hi101_6⟩ := at_T24 HR0.out x9_1 p101 q101
        cases e101
        replace hx101_0 := (HB.out.cell (World.block_lt_of_cell? w _ hx101_0)).trans hx101_0; replace hx101_1 := (HB.out.cell (World.block_lt_of_cell? w _ hx101_1)).trans hx101_1; replace hx101_2 := (HB.out.cell (World.block_lt_of_cell? w _ hx101_2)).trans hx101_2; replace hx101_3 := (HB.out.cell (World.block_lt_of_cell? w _ hx101_3)).trans hx101_3; replace hx101_4 := (HB.out.cell (World.block_lt_of_cell? w _ hx101_4)).trans hx101_4; replace hx101_5 := (HB.out.cell (World.block_lt_of_cell? w _ hx101_5)).trans hx101_5; replace hx101_6 := (HB.out.cell (World.block_lt_of_cell? w _ hx101_6)).trans hx101_6; have HR101_6 := Aside0.mk hi101_6; have HC101_6 := Aside0.mk hl101_6; clear hi101_6 hl101_6; replace p101 := eq_true p101; replace q101 := eq_true q101; have p102 : 0 ≤ (x9_1 : Int) := of_decide_eq_true pbb2_6; have q102 : x9_1 < (l0.length : Int) := of_decide_eq_true pbb2_6; obtain ⟨ad102, A102_6, c102_6, e102, hx102_0, hx102_1, hx102_2, hx102_3, hx102_4, hx102_5, hx102_6, hl102_6, hi102_6⟩ := at_T24 HR0.out x9_1 p102 q102; obtain rfl : ad101 = ad102 := (by injection e102); replace hx102_0 := (HB.out.cell (World.block_lt_of_cell? w _ hx102_0)).trans hx102_0; replace hx102_1 := (HB.out.cell (World.block_lt_of_cell? w _ hx102_1)).trans hx102_1; replace hx102_2 := (HB.out.cell (World.block_lt_of_cell? w _ hx102_2)).trans hx102_2; replace hx102_3 := (HB.out.cell (World.block_lt_of_cell? w _ hx102_3)).trans hx102_3; replace hx102_4 := (HB.out.cell (World.block_lt_of_cell? w _ hx102_4)).trans hx102_4; replace hx102_5 := (HB.out.cell (World.block_lt_of_cell? w _ hx102_5)).trans hx102_5; replace hx102_6 := (HB.out.cell (World.block_lt_of_cell? w _ hx102_6)).trans hx102_6; have HR102_6 := Aside0.mk hi102_6; have HC102_6 := Aside0.mk hl102_6; clear hi102_6 hl102_6; replace p102 := eq_true p102; replace q102 := eq_true q102; have ea_ := Option.some.inj (hx101_6.symm.trans hx102_6); injection ea_ with ea_ en_ ec_
        subst ea_; subst ec_; clear en_
        go_wp2_with (first | ((with_reducible refine gate_builtin (b := .append) (xs := #[.tmp 27, .tmp 33]) rfl ?_); at_builtin; refine Kd.R_append (Kd.int .i64) (w0 := w) w.heap.size rfl (.tmp 27) (.tmp 33) 80 3 (.int .i64 0) 8 rfl Tryd.underlying80 info3 rfl (by decide) (by omega) u7 x7_1 ((rd_T24 l0 x9_1).f2) [.int .i64 ((rd_T24 l0 x9_1).f2)] (fun k_ => some k_ ≠ (u8 : Value).ownBlock) (fun _ => False) rfl rfl ?aP (fun _ hk => hk.elim) ?aF ?aO ?aB ?aS ?aL ?_; (case aP => exact rfl); (case aB => exact pbb2_9); (case aF => exact (fun k_ hk => Kd.fresh' (Kd.R_lt pco1_10) k_ hk)); (case aO => exact (by (with_reducible repeat (first | apply Kd.R_alloc | apply Kd.R_drewN | apply Kd.R_drew)); exact HO_7.out)); (case aS => exact (below_size pbb2_9)); (case aL => have := LMc6.out; omega); intro v104 w8 ho hb hg hat; rw [← Ny103.out] at ho; replace HO_8 := Aside0.mk (Kd.R_after (ok := (fun _ => True)) (by (with_reducible repeat (first | apply Kd.R_alloc | apply Kd.R_drewN | apply Kd.R_drew)); exact Kd.R_mono HO_8.out (fun _ hk => ⟨trivial, hk⟩)) hg hat); replace HB := Aside0.mk (hb); have HO105 := Aside0.mk (ho); clear HO_7; clear ho hb hg hat; have p106 : 0 ≤ (x9_1 : Int) := of_decide_eq_true pbb2_6; have q106 : x9_1 < (l0.length : Int) := of_decide_eq_true pbb2_6; obtain ⟨ad106, A106_6, c106_6, e106, hx106_0, hx106_1, hx106_2, hx106_3, hx106_4, hx106_5, hx106_6, hl106_6, hi106_6⟩ := at_T24 HR0.out x9_1 p106 q106; obtain rfl : ad101 = ad106 := (by injection e106); replace hx106_0 := (HB.out.cell (World.block_lt_of_cell? w _ hx106_0)).trans hx106_0; replace hx106_1 := (HB.out.cell (World.block_lt_of_cell? w _ hx106_1)).trans hx106_1; replace hx106_2 := (HB.out.cell (World.block_lt_of_cell? w _ hx106_2)).trans hx106_2; replace hx106_3 := (HB.out.cell (World.block_lt_of_cell? w _ hx106_3)).trans hx106_3; replace hx106_4 := (HB.out.cell (World.block_lt_of_cell? w _ hx106_4)).trans hx106_4; replace hx106_5 := (HB.out.cell (World.block_lt_of_cell? w _ hx106_5)).trans hx106_5; replace hx106_6 := (HB.out.cell (World.block_lt_of_cell? w _ hx106_6)).trans hx106_6; have HR106_6 := Aside0.mk hi106_6; have HC106_6 := Aside0.mk hl106_6; clear hi106_6 hl106_6; replace p106 := eq_true p106; replace q106 := eq_true q106) | ((with_reducible refine gate_builtin (b := .append) (xs := #[.tmp 35, .tmp 41]) rfl ?_); at_builtin; refine Kd.R_append (Kd.int .i64) (w0 := w) w.heap.size rfl (.tmp 35) (.tmp 41) 80 3 (.int .i64 0) 8 rfl Tryd.underlying80 info3 rfl (by decide) (by omega) u8 x8_1 ((rd_T24 l0 x9_1).f3) [.int .i64 ((rd_T24 l0 x9_1).f3)] (fun k_ => some k_ ≠ (v104 : Value).ownBlock) (fun _ => False) rfl rfl ?aP (fun _ hk => hk.elim) ?aF ?aO ?aB ?aS ?aL ?_; (case aP => exact rfl); (case aB => exact pbb2_9); (case aF => exact (fun k_ hk => Kd.fresh' (Kd.R_lt (by (with_reducible repeat (first | apply Kd.R_alloc | apply Kd.R_drewN | apply Kd.R_drew)); exact HO105.out)) k_ hk)); (case aO => exact (by (with_reducible repeat (first | apply Kd.R_alloc | apply Kd.R_drewN | apply Kd.R_drew)); exact Kd.R_mono HO_8.out (fun _ hk => hk.2))); (case aS => exact (below_size pbb2_9)); (case aL => have := LMc7.out; omega); intro v108 w9 ho hb hg hat; rw [← Ny107.out] at ho; replace HO105 := Aside0.mk (Kd.R_after (ok := (fun _ => True)) (by (with_reducible repeat (first | apply Kd.R_alloc | apply Kd.R_drewN | apply Kd.R_drew)); exact Kd.R_mono HO105.out (fun _ hk => ⟨trivial, hk⟩)) hg hat); replace HB := Aside0.mk (hb); have HO109 := Aside0.mk (ho); clear HO_8; clear ho hb hg hat))
        go_roundg k1
        case measure => have := HK1.out; omega
        case rel => exact ⟨(y103), (y107), (wrap64 (x9_1 + 1)), pbb2_3, H', ⟨pbb2_7⟩, ⟨by (with_reducible repeat (first | apply Kd.R_alloc | apply Kd.R_drewN | apply Kd.R_drew)); exact Kd.R_mono HO105.out (fun _ hk => hk.2)⟩, ⟨by (with_reducible repeat (first | apply Kd.R_alloc | apply Kd.R_drewN | apply Kd.R_drew)); exact HO109.out⟩, ⟨pbb2_9⟩⟩
       ·rw [if_neg c7] at H; exact absurd H (by simp)
      ·rw [if_neg c6] at H; exact absurd H (by simp)
     ·rw [if_neg c5] at H; have c5b0 := nF_ c5; have c5b1 := nT_ c5; have H' := Aside0.mk H; clear H; have p101 : 0 ≤ (x9_1 : Int) := of_decide_eq_true pbb2_6; have q101 : x9_1 < (l0.length : Int) := of_decide_eq_true pbb2_6; obtain ⟨ad101, A101_6, c101_6, e101, hx101_0, hx101_1, hx101_2, hx101_3, hx101_4, hx101_5, hx101_6, hl101_6, hi101_6⟩ := at_T24 HR0.out x9_1 p101 q101
      cases e101
      replace hx101_0 := (HB.out.cell (World.block_lt_of_cell? w _ hx101_0)).trans hx101_0; replace hx101_1 := (HB.out.cell (World.block_lt_of_cell? w _ hx101_1)).trans hx101_1; replace hx101_2 := (HB.out.cell (World.block_lt_of_cell? w _ hx101_2)).trans hx101_2; replace hx101_3 := (HB.out.cell (World.block_lt_of_cell? w _ hx101_3)).trans hx101_3; replace hx101_4 := (HB.out.cell (World.block_lt_of_cell? w _ hx101_4)).trans hx101_4; replace hx101_5 := (HB.out.cell (World.block_lt_of_cell? w _ hx101_5)).trans hx101_5; replace hx101_6 := (HB.out.cell (World.block_lt_of_cell? w _ hx101_6)).trans hx101_6; have HR101_6 := Aside0.mk hi101_6; have HC101_6 := Aside0.mk hl101_6; clear hi101_6 hl101_6; replace p101 := eq_true p101; replace q101 := eq_true q101
      go_wp2
      go_roundg k1
      case measure => have := HK1.out; omega
      case rel => exact ⟨(x7_1), (x8_1), (wrap64 (x9_1 + 1)), pbb2_3, H', ⟨pbb2_7⟩, ⟨by (with_reducible repeat (first | apply Kd.R_alloc | apply Kd.R_drewN | apply Kd.R_drew)); exact HO_7.out⟩, ⟨pco1_10⟩, ⟨pbb2_9⟩⟩
    ·rw [if_neg c4] at H; exact absurd H (by simp)
   ·rw [if_neg c3] at H; have c3b0 := decide_eq_false c3; clear c3; obtain ⟨⟨t110, t111⟩, A100, H⟩ := bnd H; (try dsimp only at H); have A10 := Aside0.mk A100; clear A100; obtain ⟨⟨t112, t113⟩, A110, H⟩ := bnd H; (try dsimp only at H); have A11 := Aside0.mk A110; clear A110
    by_cases c12 : t111 = true
    ·subst c12; rw [if_pos rfl] at H; simp only [Option.some.injEq, Prod.mk.injEq] at H; obtain ⟨rfl, rfl, rfl⟩ := H; obtain ⟨Ao13, co13, eo13⟩ := Kd.R_slice HO_7.out; subst eo13
     go_wp2_with (first | ((with_reducible refine gate_callee (f := 52) rfl ?_); refine goesL_ (some 45) rfl rfl Tryd.func52 (by kernel_rfl) rfl #[.slice Ao13 x7_1.length co13] rfl pbb2_5 ?_; (with_reducible refine (F52.calls k1 _ _ x7_1 t110 true _ (by repeat (first | exact (Kd.R_reads' HO_7.out).2.2 | (with_reducible refine Kd.C_alloc ?_ _) | (with_reducible refine Kd.C_drewN ?_ _) | (with_reducible refine Kd.C_drew ?_))) (by exact (Kd.R_reads' HO_7.out).2.1) A10.out).mono ?_); rintro e w' ⟨rfl, ⟨nd, rfl⟩⟩; refine ⟨_, rfl, ?_⟩; obtain ⟨Ao14, co14, eo14⟩ := Kd.R_slice HO_8.out; subst eo14) | ((with_reducible refine gate_callee (f := 52) rfl ?_); refine goesL_ (some 50) rfl rfl Tryd.func52 (by kernel_rfl) rfl #[.slice Ao14 x8_1.length co14] rfl pbb2_5 ?_; (with_reducible refine (F52.calls k1 _ _ x8_1 t112 t113 _ (by repeat (first | exact (Kd.R_reads' HO_8.out).2.2 | (with_reducible refine Kd.C_alloc ?_ _) | (with_reducible refine Kd.C_drewN ?_ _) | (with_reducible refine Kd.C_drew ?_))) (by exact (Kd.R_reads' HO_8.out).2.1) A11.out).mono ?_); rintro e w' ⟨rfl, ⟨nd, rfl⟩⟩; refine ⟨_, rfl, ?_⟩))
     go_ret3
     exact ⟨pbb2_18, pbb2_9⟩
    ·replace c12 := Bool.eq_false_iff.mpr c12; subst c12; rw [if_neg (show ¬ (false = true) by decide)] at H; simp only [Option.some.injEq, Prod.mk.injEq] at H; obtain ⟨rfl, rfl, rfl⟩ := H; obtain ⟨Ao15, co15, eo15⟩ := Kd.R_slice HO_7.out; subst eo15
     go_wp2_with (first | ((with_reducible refine gate_callee (f := 52) rfl ?_); refine goesL_ (some 45) rfl rfl Tryd.func52 (by kernel_rfl) rfl #[.slice Ao15 x7_1.length co15] rfl pbb2_5 ?_; (with_reducible refine (F52.calls k1 _ _ x7_1 t110 false _ (by repeat (first | exact (Kd.R_reads' HO_7.out).2.2 | (with_reducible refine Kd.C_alloc ?_ _) | (with_reducible refine Kd.C_drewN ?_ _) | (with_reducible refine Kd.C_drew ?_))) (by exact (Kd.R_reads' HO_7.out).2.1) A10.out).mono ?_); rintro e w' ⟨rfl, ⟨nd, rfl⟩⟩; refine ⟨_, rfl, ?_⟩; obtain ⟨Ao16, co16, eo16⟩ := Kd.R_slice HO_8.out; subst eo16) | ((with_reducible refine gate_callee (f := 52) rfl ?_); refine goesL_ (some 50) rfl rfl Tryd.func52 (by kernel_rfl) rfl #[.slice Ao16 x8_1.length co16] rfl pbb2_5 ?_; (with_reducible refine (F52.calls k1 _ _ x8_1 t112 t113 _ (by repeat (first | exact (Kd.R_reads' HO_8.out).2.2 | (with_reducible refine Kd.C_alloc ?_ _) | (with_reducible refine Kd.C_drewN ?_ _) | (with_reducible refine Kd.C_drew ?_))) (by exact (Kd.R_reads' HO_8.out).2.1) A11.out).mono ?_); rintro e w' ⟨rfl, ⟨nd, rfl⟩⟩; refine ⟨_, rfl, ?_⟩))
     go_ret3
     exact ⟨pbb2_18, pbb2_9⟩
def F24.l0 : Nat → List (S24) → List ByteArray → Int → Option (Bool)
  | 0, _, _, _ => none
  | k + 1, x0, x3, x4 => if x4 < (x3.length : Int) then (if 0 ≤ x4 then ((F50.f k x0 (rdOf ByteArray.empty x3 x4)).bind fun bt105 => (if bt105.2.2 = true then (if bt105.1 = 0 then (if bt105.2.1 = 0 then (F24.l0 k x0 x3 (wrap64 (x4 + 1))) else (some false)) else (some false)) else (some false))) else (none)) else (some true)
def F24.f (k : Nat) (l0 : List (S24)) : Option (Bool) := (F49.f l0).bind fun t101 => (F24.l0 k l0 t101 0)
set_option maxHeartbeats 8000000 in
set_option maxRecDepth 100000 in
theorem F24.calls (k : Nat) (A0 : Option Addr) (c0 : Nat) (l0 : List (S24)) (r : Bool) (w : World) (hr0 : Kd.C k24 w A0 l0.length l0) (hc0 : l0.length ≤ c0) (h : F24.f k l0 = some r) :
    Calls Tryd.prog 24 #[.slice A0 l0.length c0] w fun e w' => e = .returned (.bool r) ∧ Below w.heap.size w w' := by
 have hu9 := Tryd.underlying9; have HR0 := Aside0.mk hr0; have HC0 := Aside0.mk hc0; clear hr0 hc0; have HB := Aside0.mk (Below.refl w.heap.size w)
 unfold F24.f at h
 have H := h; clear h; obtain ⟨t101, A20, H⟩ := bnd H; have A2 := Aside0.mk A20; clear A20; have H' := Aside0.mk H; clear H; go_enter Tryd.func24, Tryd.ntmps24
 go_wp2_with (first | ((with_reducible refine gate_callee (f := 49) rfl ?_); refine goesL_ (some 9) rfl rfl Tryd.func49 (by kernel_rfl) rfl #[.slice A0 l0.length c0] rfl pbb2_5 ?_; (with_reducible refine (F49.calls _ _ l0 t101 _ pco1_0 HC0.out A2.out).mono ?_); rintro e w3 ⟨v102, rfl, ho0, hb⟩; refine ⟨_, rfl, ?_⟩; have HO103 := Aside0.mk (Kd.R_lower ho0 (below_size pbb2_9)); replace HB := Aside0.mk (below_step pbb2_9 hb); (try clear hb); (try clear hb2); (try clear hk); (try clear hi); (try clear ho0)))
 (try simp only [Act.put, List.setIfInBounds_toArray, List.set_cons_zero, List.set_cons_succ])
 go_loopg [4] k (fun kq v4 w' => ∃ (x4_1 : Int), v4 = .int .i64 x4_1 ∧ Aside0 (F24.l0 kq l0 t101 x4_1 = some r) ∧ Aside0 (kq ≤ k) ∧ Aside0 (Kd.R Kd.string 9 w' w.heap.size (fun _ => True) v102 t101) ∧ Aside0 (Below w.heap.size w w'))
 case atStart => exact ⟨(0), pbb2_3, H', ⟨Nat.le_refl _⟩, ⟨by (with_reducible repeat (first | apply Kd.R_alloc | apply Kd.R_drewN | apply Kd.R_drew)); exact HO103.out⟩, ⟨pbb2_9⟩⟩
 case round =>
  clear H'; (try clear c2); (try clear p2); obtain ⟨x4_1, rfl, HA, HK1, HO_3, HB⟩ := hrel
  cases gk with
  | zero => exact absurd HA.out (by simp [F24.l0])
  | succ k1 =>
   have H := HA.out; clear HA; simp only [F24.l0] at H
   by_cases c4 : x4_1 < (t101.length : Int)
   ·rw [if_pos c4] at H; have c4b0 := decide_eq_true c4; clear c4
    by_cases c5 : 0 ≤ x4_1
    ·rw [if_pos c5] at H; have c5b0 := decide_eq_true c5; clear c5; obtain ⟨⟨t105, t106, t107⟩, A60, H⟩ := bnd H; (try dsimp only at H); have A6 := Aside0.mk A60; clear A60
     by_cases c7 : t107 = true
     ·subst c7; rw [if_pos rfl] at H
      by_cases c8 : t105 = 0
      ·rw [if_pos c8] at H; have c8b0 := bT_ c8; have c8b1 := bF_ c8; clear c8
       by_cases c9 : t106 = 0
       ·rw [if_pos c9] at H; have c9b0 := bT_ c9; have c9b1 := bF_ c9; clear c9; have H' := Aside0.mk H; clear H; obtain ⟨Ao10, co10, eo10⟩ := Kd.R_slice HO_3.out; subst eo10; have p104 : 0 ≤ (x4_1 : Int) := of_decide_eq_true pbb2_6; have q104 : x4_1 < (t101.length : Int) := of_decide_eq_true pbb2_6; obtain ⟨ad104, e104, hx104_0⟩ := Kd.at_string (Kd.R_reads' HO_3.out).2.2 x4_1 p104 q104
        cases e104
        replace p104 := eq_true p104; replace q104 := eq_true q104
        go_wp2_with (first | ((with_reducible refine gate_callee (f := 50) rfl ?_); refine goesL_ (some 22) rfl rfl Tryd.func50 (by kernel_rfl) rfl #[.slice A0 l0.length c0, .string (rdOf ByteArray.empty t101 x4_1)] rfl pbb2_5 ?_; (with_reducible refine (F50.calls k1 _ _ l0 (rdOf ByteArray.empty t101 x4_1) t105 t106 true _ pco1_4 HC0.out A6.out).mono ?_); rintro e w11 ⟨rfl, hb⟩; refine ⟨_, rfl, ?_⟩; replace HO_3 := Aside0.mk (Kd.R_below pco1_13 hb); replace HB := Aside0.mk (below_step pbb2_9 hb); (try clear hb); (try clear hb2); (try clear hk); (try clear hi)))
        go_roundg k1
        case measure => have := HK1.out; omega
        case rel => exact ⟨(wrap64 (x4_1 + 1)), pbb2_3, H', ⟨pbb2_7⟩, ⟨pco1_13⟩, ⟨pbb2_9⟩⟩
       ·rw [if_neg c9] at H; have c9b0 := nF_ c9; have c9b1 := nT_ c9; obtain rfl := Option.some.inj H; obtain ⟨Ao12, co12, eo12⟩ := Kd.R_slice HO_3.out; subst eo12; have p104 : 0 ≤ (x4_1 : Int) := of_decide_eq_true pbb2_6; have q104 : x4_1 < (t101.length : Int) := of_decide_eq_true pbb2_6; obtain ⟨ad104, e104, hx104_0⟩ := Kd.at_string (Kd.R_reads' HO_3.out).2.2 x4_1 p104 q104
        cases e104
        replace p104 := eq_true p104; replace q104 := eq_true q104
        go_wp2_with (first | ((with_reducible refine gate_callee (f := 50) rfl ?_); refine goesL_ (some 22) rfl rfl Tryd.func50 (by kernel_rfl) rfl #[.slice A0 l0.length c0, .string (rdOf ByteArray.empty t101 x4_1)] rfl pbb2_5 ?_; (with_reducible refine (F50.calls k1 _ _ l0 (rdOf ByteArray.empty t101 x4_1) t105 t106 true _ pco1_4 HC0.out A6.out).mono ?_); rintro e w13 ⟨rfl, hb⟩; refine ⟨_, rfl, ?_⟩; replace HO_3 := Aside0.mk (Kd.R_below pco1_13 hb); replace HB := Aside0.mk (below_step pbb2_9 hb); (try clear hb); (try clear hb2); (try clear hk); (try clear hi)))
        go_ret
        exact ⟨pbb2_18, pbb2_9⟩
      ·rw [if_neg c8] at H; have c8b0 := nF_ c8; have c8b1 := nT_ c8; obtain rfl := Option.some.inj H; obtain ⟨Ao14, co14, eo14⟩ := Kd.R_slice HO_3.out; subst eo14; have p104 : 0 ≤ (x4_1 : Int) := of_decide_eq_true pbb2_6; have q104 : x4_1 < (t101.length : Int) := of_decide_eq_true pbb2_6; obtain ⟨ad104, e104, hx104_0⟩ := Kd.at_string (Kd.R_reads' HO_3.out).2.2 x4_1 p104 q104
       cases e104
       replace p104 := eq_true p104; replace q104 := eq_true q104
       go_wp2_with (first | ((with_reducible refine gate_callee (f := 50) rfl ?_); refine goesL_ (some 22) rfl rfl Tryd.func50 (by kernel_rfl) rfl #[.slice A0 l0.length c0, .string (rdOf ByteArray.empty t101 x4_1)] rfl pbb2_5 ?_; (with_reducible refine (F50.calls k1 _ _ l0 (rdOf ByteArray.empty t101 x4_1) t105 t106 true _ pco1_4 HC0.out A6.out).mono ?_); rintro e w15 ⟨rfl, hb⟩; refine ⟨_, rfl, ?_⟩; replace HO_3 := Aside0.mk (Kd.R_below pco1_13 hb); replace HB := Aside0.mk (below_step pbb2_9 hb); (try clear hb); (try clear hb2); (try clear hk); (try clear hi)))
       go_ret
       exact ⟨pbb2_18, pbb2_9⟩
     ·replace c7 := Bool.eq_false_iff.mpr c7; subst c7; rw [if_neg (show ¬ (false = true) by decide)] at H; obtain rfl := Option.some.inj H; obtain ⟨Ao16, co16, eo16⟩ := Kd.R_slice HO_3.out; subst eo16; have p104 : 0 ≤ (x4_1 : Int) := of_decide_eq_true pbb2_6; have q104 : x4_1 < (t101.length : Int) := of_decide_eq_true pbb2_6; obtain ⟨ad104, e104, hx104_0⟩ := Kd.at_string (Kd.R_reads' HO_3.out).2.2 x4_1 p104 q104
      cases e104
      replace p104 := eq_true p104; replace q104 := eq_true q104
      go_wp2_with (first | ((with_reducible refine gate_callee (f := 50) rfl ?_); refine goesL_ (some 22) rfl rfl Tryd.func50 (by kernel_rfl) rfl #[.slice A0 l0.length c0, .string (rdOf ByteArray.empty t101 x4_1)] rfl pbb2_5 ?_; (with_reducible refine (F50.calls k1 _ _ l0 (rdOf ByteArray.empty t101 x4_1) t105 t106 false _ pco1_4 HC0.out A6.out).mono ?_); rintro e w17 ⟨rfl, hb⟩; refine ⟨_, rfl, ?_⟩; replace HO_3 := Aside0.mk (Kd.R_below pco1_13 hb); replace HB := Aside0.mk (below_step pbb2_9 hb); (try clear hb); (try clear hb2); (try clear hk); (try clear hi)))
      go_ret
      exact ⟨pbb2_18, pbb2_9⟩
    ·rw [if_neg c5] at H; exact absurd H (by simp)
   ·rw [if_neg c4] at H; have c4b0 := decide_eq_false c4; clear c4; obtain rfl := Option.some.inj H; obtain ⟨Ao18, co18, eo18⟩ := Kd.R_slice HO_3.out; subst eo18
    go_wp2
    go_ret
    exact ⟨pbb2_18, pbb2_9⟩
end Go.Proofs.YtjeecehhcajfaaaDoor.M
end
section
namespace Go.Proofs.YtjeecehhcajfaaaDoor.M
open Go.RowKit Go.Proofs.YtjeecehhcajfaaaDoorW.PrintWords Go.Proofs.YtjeecehhcajfaaaDoorW.PrintLast
set_option linter.unusedVariables false
set_option linter.unusedSimpArgs false
section
variable {κ : Type} [DecidableEq κ]
def amtsOf (key : Li → κ) (l : List Li) (k : κ) : List Int := (l.filter (fun x => decide (key x = k))).map (·.f2)
def basesOf (key : Li → κ) (l : List Li) (k : κ) : List Int := (l.filter (fun x => decide (key x = k))).map (·.f3)
theorem amts_snoc (key : Li → κ) (p : List Li) (x : Li) (k : κ) : amtsOf key (p ++ [x]) k = amtsOf key p k ++ (if key x = k then [x.f2] else []) := by
 unfold amtsOf
 rw [List.filter_append, List.map_append]
 by_cases c : key x = k <;> simp [c]
theorem bases_snoc (key : Li → κ) (p : List Li) (x : Li) (k : κ) : basesOf key (p ++ [x]) k = basesOf key p k ++ (if key x = k then [x.f3] else []) := by
 unfold basesOf
 rw [List.filter_append, List.map_append]
 by_cases c : key x = k <;> simp [c]
def colInv (key : Li → κ) (pre : List Li) (L : List (Col κ)) : Prop := (∀ q ∈ L, q.2.1 = amtsOf key pre q.1 ∧ q.2.2 = basesOf key pre q.1) ∧ ∀ k, k ∈ L.map (·.1) ↔ ∃ x ∈ pre, key x = k
theorem colInv_step (key : Li → κ) (pre : List Li) (L : List (Col κ)) (x : Li) (h : colInv key pre L) : colInv key (pre ++ [x]) (colStep key L x) := by
 have hn : ∀ q ∈ colNew L (key x), q.2.1 = amtsOf key pre q.1 ∧ q.2.2 = basesOf key pre q.1 := by
  intro q hq
  unfold colNew at hq
  by_cases c : L.any (fun q => decide (q.1 = key x)) = true
  ·rw [if_pos c] at hq; exact h.1 q hq
  ·rw [if_neg c] at hq
   rcases List.mem_append.1 hq with h3 | h3
   ·exact h.1 q h3
   ·simp only [List.mem_singleton] at h3; subst h3; have hno : ∀ y ∈ pre, ¬ key y = key x := fun y hy e => c ((any_key L _).2 ((h.2 _).2 ⟨y, hy, e⟩))
    have hf : pre.filter (fun y => decide (key y = key x)) = [] := by
     rw [List.filter_eq_nil_iff]; intro y hy
     simpa using hno y hy
    simp [amtsOf, basesOf, hf]
 constructor
 ·intro q hq
  unfold colStep colPut at hq
  obtain ⟨q0, hq0, rfl⟩ := List.mem_map.1 hq; obtain ⟨h1, h2⟩ := hn q0 hq0
  by_cases c : q0.1 = key x
  ·rw [if_pos c]; simp only [amtsOf, basesOf, List.filter_append, List.map_append]; rw [h1, h2]
   simp [amtsOf, basesOf, c]
  ·rw [if_neg c]; have c2 : ¬ key x = q0.1 := fun e => c e.symm; simp only [amtsOf, basesOf, List.filter_append, List.map_append]; rw [h1, h2]
   simp [amtsOf, basesOf, c2]
 ·intro k
  unfold colStep
  rw [colPut_keys]
  have hk : k ∈ (colNew L (key x)).map (·.1) ↔ k ∈ L.map (·.1) ∨ k = key x := by
   unfold colNew
   by_cases c : L.any (fun q => decide (q.1 = key x)) = true
   ·rw [if_pos c]; exact ⟨.inl, fun hh => hh.elim id (fun e => e ▸ (any_key L _).1 c)⟩
   ·rw [if_neg c]; simp
  rw [hk, h.2 k]
  constructor
  ·rintro (⟨y, hy, e⟩ | e)
   ·exact ⟨y, List.mem_append_left _ hy, e⟩
   ·exact ⟨x, by simp, e.symm⟩
  ·rintro ⟨y, hy, e⟩
   rcases List.mem_append.1 hy with hy | hy
   ·exact .inl ⟨y, hy, e⟩
   ·simp only [List.mem_singleton] at hy; subst hy; exact .inr e.symm
theorem colInv_fold (key : Li → κ) : ∀ (l pre : List Li) (L : List (Col κ)), colInv key pre L → colInv key (pre ++ l) (l.foldl (colStep key) L)
 | [], pre, L, h => by simpa using h
 | x :: l, pre, L, h => by
  have := colInv_fold key l (pre ++ [x]) _ (colInv_step key pre L x h)
  simpa using this
theorem colsOf_inv (key : Li → κ) (l : List Li) : colInv key l (colsOf key l) := by
 have := colInv_fold key l [] [] ⟨by simp, by simp⟩
 simpa [colsOf] using this
end
def sumE (lim : Int) (l : List Int) : Int × Int := if -lim ≤ l.sum ∧ l.sum ≤ lim then (l.sum, 0) else (0, 4)
theorem F51.eq (lim : Int) (h0 : 0 ≤ lim) (h1 : lim ≤ 9223372036854775807) (l : List Int) (hl : l.length ≤ 1000000) (hx : ∀ x ∈ l, inW x) : F51.f lim l = some (sumE lim l) := by
 unfold F51.f
 rw [F74.eq l hl hx, Option.bind_some]
 unfold sumv sumE F36.f
 rw [w64 (n := -lim) (by omega) (by omega)]
 by_cases c : inW l.sum
 ·simp only [if_pos c, if_true]
  by_cases c1 : -lim ≤ l.sum
  ·by_cases c2 : l.sum ≤ lim
   ·simp [c1, c2]
   ·simp [c1, c2]
  ·have c1' : ¬ l.sum ≥ -lim := c1
   simp [c1, c1']
 ·have : ¬ (-lim ≤ l.sum ∧ l.sum ≤ lim) := fun h => c (by unfold inW; omega)
  simp [c, this]
theorem bothf.eq (lim : Int) (h0 : 0 ≤ lim) (h1 : lim ≤ 9223372036854775807) (A B : List Int) (ha : A.length ≤ 1000000) (hb : B.length ≤ 1000000) (hxa : ∀ x ∈ A, inW x) (hxb : ∀ x ∈ B, inW x) : bothf lim A B = some (if (-lim ≤ A.sum ∧ A.sum ≤ lim) ∧ (-lim ≤ B.sum ∧ B.sum ≤ lim) then (A.sum, B.sum, 0) else (0, 0, 4)) := by
 unfold bothf
 rw [F51.eq lim h0 h1 A ha hxa, Option.bind_some, F51.eq lim h0 h1 B hb hxb]
 unfold sumE
 by_cases c1 : -lim ≤ A.sum ∧ A.sum ≤ lim
 ·by_cases c2 : -lim ≤ B.sum ∧ B.sum ≤ lim
  ·simp [c1, c2]
  ·simp [c1, c2]
 ·simp [c1]
def okA (l : List Li) : Prop := l.length ≤ 1000000 ∧ ∀ x ∈ l, inW x.f2 ∧ inW x.f3
theorem amts_in {κ : Type} [DecidableEq κ] (key : Li → κ) {l : List Li} (h : okA l) (k : κ) : (amtsOf key l k).length ≤ 1000000 ∧ (basesOf key l k).length ≤ 1000000 ∧ (∀ x ∈ amtsOf key l k, inW x) ∧ ∀ x ∈ basesOf key l k, inW x := by
 have hf : (l.filter (fun x => decide (key x = k))).length ≤ l.length := List.length_filter_le _ _; refine ⟨by unfold amtsOf; rw [List.length_map]; have := h.1; omega, by unfold basesOf; rw [List.length_map]; have := h.1; omega, fun y hy => ?_, fun y hy => ?_⟩
 ·obtain ⟨x, hx, rfl⟩ := List.mem_map.1 hy; exact (h.2 x ((List.mem_filter.1 hx).1)).1
 ·obtain ⟨x, hx, rfl⟩ := List.mem_map.1 hy; exact (h.2 x ((List.mem_filter.1 hx).1)).2
def bal1 (l : List Li) (c : ByteArray) : Bool := decide ((amtsOf curKey l c).sum = 0 ∧ (basesOf curKey l c).sum = 0)
def balv (l : List Li) : Bool := l.all (fun x => bal1 l x.f1)
theorem balL_eq (l : List Li) (h : okA l) : ∀ L : List (Col ByteArray), (∀ q ∈ L, q.2.1 = amtsOf curKey l q.1 ∧ q.2.2 = basesOf curKey l q.1) → balL L = some (L.all (fun q => bal1 l q.1))
 | [], _ => rfl
 | q :: L, hq => by
  obtain ⟨h1, h2⟩ := hq q List.mem_cons_self; obtain ⟨b1, b2, b3, b4⟩ := amts_in curKey h q.1; have ih := balL_eq l h L (fun z hz => hq z (List.mem_cons_of_mem _ hz)); simp only [balL, h1, h2, bothf.eq 0 (by omega) (by omega) _ _ b1 b2 b3 b4, Option.bind_some, List.all_cons]
  unfold bal1
  by_cases c : (amtsOf curKey l q.1).sum = 0 ∧ (basesOf curKey l q.1).sum = 0
  ·obtain ⟨c1, c2⟩ := c; have e : (if (-0 ≤ (amtsOf curKey l q.1).sum ∧ (amtsOf curKey l q.1).sum ≤ 0) ∧ (-0 ≤ (basesOf curKey l q.1).sum ∧ (basesOf curKey l q.1).sum ≤ 0) then ((amtsOf curKey l q.1).sum, (basesOf curKey l q.1).sum, (0 : Int)) else (0, 0, 4)) = ((amtsOf curKey l q.1).sum, (basesOf curKey l q.1).sum, 0) := if_pos (by omega); rw [e]; simp only [if_true, c1, c2, and_self, decide_true, Bool.true_and]; exact ih
  ·have e : (if (-0 ≤ (amtsOf curKey l q.1).sum ∧ (amtsOf curKey l q.1).sum ≤ 0) ∧ (-0 ≤ (basesOf curKey l q.1).sum ∧ (basesOf curKey l q.1).sum ≤ 0) then ((amtsOf curKey l q.1).sum, (basesOf curKey l q.1).sum, (0 : Int)) else (0, 0, 4)) = (0, 0, 4) := if_neg (by omega); rw [e, decide_eq_false c]
   rfl
theorem all_keys (l : List Li) (p : ByteArray → Bool) (L : List (Col ByteArray)) (h : ∀ k, k ∈ L.map (·.1) ↔ ∃ x ∈ l, curKey x = k) : L.all (fun q => p q.1) = l.all (fun x => p x.f1) := by
 rw [Bool.eq_iff_iff, List.all_eq_true, List.all_eq_true]
 constructor
 ·intro hq x hx; obtain ⟨q, hq2, e⟩ := List.mem_map.1 ((h x.f1).2 ⟨x, hx, rfl⟩); rw [← e]; exact hq q hq2
 ·intro hx q hq; obtain ⟨x, hx2, e⟩ := (h q.1).1 (List.mem_map.2 ⟨q, hq, rfl⟩); rw [← e]; exact hx x hx2
theorem F23.eq (l : List Li) (h : okA l) : F23.f l = some (balv l) := by
 unfold F23.f balv
 rw [if_pos h.1]; have hi := colsOf_inv curKey l; rw [balL_eq l h _ hi.1, all_keys l (bal1 l) _ hi.2]
theorem refSums.go (l : List Li) (h : okA l) (c : ByteArray) : ∀ (n i : Nat) (A B : List Int), i + n = l.length → A = amtsOf curKey (l.take i) c → B = basesOf curKey (l.take i) c → Ev (fun k => F50.l0 k l c A B (i : Int)) ((sumv (amtsOf curKey l c)).1, (sumv (basesOf curKey l c)).1, (sumv (amtsOf curKey l c)).2 && (sumv (basesOf curKey l c)).2)
 | 0, i, A, B, hi, hA, hB => by
  have ht : l.take i = l := List.take_of_length_le (by omega); rw [ht] at hA hB; obtain ⟨b1, b2, b3, b4⟩ := amts_in curKey h c; refine Ev.succ ?_; simp only [F50.l0, if_neg (show ¬ (i : Int) < (l.length : Int) by omega)]; rw [hA, hB]; refine Ev.bind (refSum.eq _ b1 b3) (Ev.bind (refSum.eq _ b2 b4) ?_)
  cases hh : (sumv (amtsOf curKey l c)).2 with
  | true => simp only [if_true, Bool.true_and]; exact Ev.const _
  | false => simp only [Bool.false_eq_true, if_false, Bool.false_and]; exact Ev.const _
 | n + 1, i, A, B, hi, hA, hB => by
  have hlt : i < l.length := by omega
  have hll := h.1; have hrd : rd_T24 l (i : Int) = l[i] := by simp [rd_T24, hlt]
  have hAl : A.length ≤ i := by
   rw [hA]; unfold amtsOf; rw [List.length_map]; refine Nat.le_trans (List.length_filter_le _ _) ?_; rw [List.length_take]; omega
  have hBl : B.length ≤ i := by
   rw [hB]; unfold basesOf; rw [List.length_map]; refine Nat.le_trans (List.length_filter_le _ _) ?_; rw [List.length_take]; omega
  refine Ev.succ ?_; simp only [F50.l0, if_pos (show (i : Int) < (l.length : Int) by omega), if_pos (show (0 : Int) ≤ (i : Int) by omega), hrd, byt_inj, w64s (show i ≤ 1000000000 by omega)]
  by_cases e : l[i].f1 = c
  ·simp only [if_pos e, if_pos (show A.length < 17592186044416 by omega), if_pos (show B.length < 17592186044416 by omega)]; refine refSums.go l h c n (i + 1) _ _ (by omega) ?_ ?_
   ·rw [hA, List.take_succ_eq_append_getElem hlt, amts_snoc, if_pos (show curKey l[i] = c from e)]
   ·rw [hB, List.take_succ_eq_append_getElem hlt, bases_snoc, if_pos (show curKey l[i] = c from e)]
  ·simp only [if_neg e]; refine refSums.go l h c n (i + 1) _ _ (by omega) ?_ ?_
   ·rw [hA, List.take_succ_eq_append_getElem hlt, amts_snoc, if_neg (show ¬ curKey l[i] = c from e), List.append_nil]
   ·rw [hB, List.take_succ_eq_append_getElem hlt, bases_snoc, if_neg (show ¬ curKey l[i] = c from e), List.append_nil]
theorem refSums.eq (l : List Li) (h : okA l) (c : ByteArray) : Ev (fun k => F50.f k l c) ((sumv (amtsOf curKey l c)).1, (sumv (basesOf curKey l c)).1, (sumv (amtsOf curKey l c)).2 && (sumv (basesOf curKey l c)).2) := by
 unfold F50.f
 exact refSums.go l h c l.length 0 [] [] (by omega) (by simp [amtsOf]) (by simp [basesOf])
def cursOf (l : List Li) : List ByteArray := l.foldl (fun o x => insC o x.f1) []
theorem cursOf_fold (l : List Li) : cursOf l = isortC (l.map (·.f1)) := by
 unfold cursOf isortC
 rw [List.foldl_map]
theorem cursOf_mem (l : List Li) (c : ByteArray) : c ∈ cursOf l ↔ ∃ x ∈ l, x.f1 = c := by
 rw [cursOf_fold]
 unfold isortC
 rw [foldC_mem]
 simp
theorem cursOf_keys (l : List Li) : isortC ((colsOf curKey l).map (·.1)) = cursOf l := by
 rw [cursOf_fold]; refine sortedC_ext (foldC_sorted _ [] List.Pairwise.nil) (foldC_sorted _ [] List.Pairwise.nil) (fun x => ?_)
 unfold isortC
 rw [foldC_mem, foldC_mem, (colsOf_inv curKey l).2 x]
 simp [curKey]
theorem cursOf_len (l : List Li) : (cursOf l).length ≤ l.length := by
 have : ∀ (m : List Li) (o : List ByteArray), (m.foldl (fun o x => insC o x.f1) o).length ≤ o.length + m.length := by
  intro m
  induction m with
  | nil => intro o; simp
  | cons x m ih =>
   intro o; have h1 := ih (insC o x.f1); have h2 := insC_length o x.f1; simp only [List.foldl_cons, List.length_cons]
   omega
 have h := this l []
 simpa [cursOf] using h
theorem refBal.go (l : List Li) (h : okA l) (C : List ByteArray) (hC : C.length ≤ 1000000) : ∀ (n i : Nat), i + n = C.length → Ev (fun k => F24.l0 k l C (i : Int)) ((C.drop i).all (bal1 l))
 | 0, i, hi => by
  refine Ev.succ ?_; simp only [F24.l0, if_neg (show ¬ (i : Int) < (C.length : Int) by omega)]; rw [List.drop_eq_nil_of_le (by omega)]; exact Ev.const _
 | n + 1, i, hi => by
  have hlt : i < C.length := by omega
  have hrd : rdOf ByteArray.empty C (i : Int) = C[i] := by simp [rdOf, hlt]
  have ih := refBal.go l h C hC n (i + 1) (by omega); refine Ev.succ ?_; simp only [F24.l0, if_pos (show (i : Int) < (C.length : Int) by omega), if_pos (show (0 : Int) ≤ (i : Int) by omega), hrd, w64s (show i ≤ 1000000000 by omega)]; refine Ev.bind (refSums.eq l h C[i]) ?_; rw [List.drop_eq_getElem_cons hlt, List.all_cons]
  unfold bal1 sumv
  by_cases c1 : (amtsOf curKey l C[i]).sum = 0
  ·by_cases c2 : (basesOf curKey l C[i]).sum = 0
   ·have e1 : inW (amtsOf curKey l C[i]).sum := by rw [c1]; unfold inW; omega
    have e2 : inW (basesOf curKey l C[i]).sum := by rw [c2]; unfold inW; omega
    have e1' : inW 0 := by unfold inW; omega
    simp only [c1, c2, if_pos e1', Bool.and_self, if_true, and_self, decide_true, Bool.true_and]; exact ih
   ·have e1' : inW 0 := by unfold inW; omega
    by_cases e2 : inW (basesOf curKey l C[i]).sum
    ·simp only [c1, if_pos e1', if_pos e2, Bool.and_self, if_true, if_neg c2, c2, and_false, decide_false, Bool.false_and]; exact Ev.const _
    ·simp only [c1, if_pos e1', if_neg e2, Bool.and_false, Bool.false_eq_true, if_false, c2, and_false, decide_false, Bool.false_and]; exact Ev.const _
  ·by_cases e1 : inW (amtsOf curKey l C[i]).sum
   ·by_cases e2 : inW (basesOf curKey l C[i]).sum
    ·simp only [if_pos e1, if_pos e2, Bool.and_self, if_true, if_neg c1, c1, false_and, decide_false, Bool.false_and]; exact Ev.const _
    ·simp only [if_pos e1, if_neg e2, Bool.and_false, Bool.false_eq_true, if_false, c1, false_and, decide_false, Bool.false_and]; exact Ev.const _
   ·simp only [if_neg e1, Bool.false_and, Bool.false_eq_true, if_false, c1, false_and, decide_false]; exact Ev.const _
theorem refBal.eq (l : List Li) (h : okA l) : Ev (fun k => F24.f k l) (balv l) := by
 unfold F24.f F49.f
 simp only [if_pos h.1, Option.bind_some]; have h1 := refBal.go l h (cursOf l) (Nat.le_trans (cursOf_len l) h.1) (cursOf l).length 0 (by omega)
 have h2 : ((cursOf l).drop 0).all (bal1 l) = balv l := by
  rw [List.drop_zero]
  unfold balv
  rw [Bool.eq_iff_iff, List.all_eq_true, List.all_eq_true]
  constructor
  ·exact fun hc x hx => hc _ ((cursOf_mem l _).2 ⟨x, hx, rfl⟩)
  ·intro hx c hc; obtain ⟨x, hx2, rfl⟩ := (cursOf_mem l c).1 hc; exact hx x hx2
 rw [h2] at h1; exact h1
theorem lit_inW {x : Int} (h : (Lit.int .i64 x).wf = true) : inW x := by
 unfold inW
 simp [Lit.wf, IntKind.min, IntKind.max, IntKind.bits, IntKind.signed] at h
 omega
theorem G24_okA2 {l : List Li} (h : ∀ z ∈ l, G24 z) (hl : l.length ≤ 150) : okA l := by
 refine ⟨by omega, fun z hz => ?_⟩; obtain ⟨_, _, h2, h3, _⟩ := h z hz; exact ⟨lit_inW h2, lit_inW h3⟩
abbrev Sm := S61
def fitS (a : Int) : Prop := -1000000000000000 ≤ a ∧ a ≤ 1000000000000000
instance (x : Int) : Decidable (fitS x) := by unfold fitS; infer_instance
def sumsV (l : List Li) : List ByteArray → List Sm → List Sm × Int
 | [], out => (out, 0)
 | c :: r, out => if fitS (amtsOf curKey l c).sum ∧ fitS (basesOf curKey l c).sum then sumsV l r (out ++ [⟨c, (amtsOf curKey l c).sum, (basesOf curKey l c).sum⟩]) else ([], 4)
def sumsv (l : List Li) : List Sm × Int := sumsV l (cursOf l) []
theorem find_col {κ : Type} [DecidableEq κ] {key : Li → κ} {l : List Li} {k : κ} (h : ∃ x ∈ l, key x = k) : ∃ q, (colsOf key l).find? (fun q => decide (q.1 = k)) = some q ∧ q.2.1 = amtsOf key l k ∧ q.2.2 = basesOf key l k := by
 have hi := colsOf_inv key l
 cases hf : (colsOf key l).find? (fun q => decide (q.1 = k)) with
 | none =>
  obtain ⟨q, hq, e⟩ := List.mem_map.1 ((hi.2 k).2 h); have := List.find?_eq_none.1 hf q hq
  simp [e] at this
 | some q =>
  have hk : q.1 = k := by simpa using List.find?_some hf
  have := hi.1 q (List.mem_of_find?_eq_some hf); rw [hk] at this; exact ⟨q, rfl, this.1, this.2⟩
theorem sumsL_eq (l : List Li) (h : okA l) : ∀ (C : List ByteArray) (out : List Sm), (∀ c ∈ C, ∃ x ∈ l, curKey x = c) → sumsL (colsOf curKey l) C out = some (sumsV l C out)
 | [], out, _ => rfl
 | c :: C, out, hC => by
  obtain ⟨q, hq, h1, h2⟩ := find_col (hC c List.mem_cons_self); obtain ⟨b1, b2, b3, b4⟩ := amts_in curKey h c; have ih := fun o => sumsL_eq l h C o (fun d hd => hC d (List.mem_cons_of_mem _ hd)); simp only [sumsL, hq, h1, h2, bothf.eq 1000000000000000 (by omega) (by omega) _ _ b1 b2 b3 b4, Option.bind_some, sumsV]
  by_cases e : fitS (amtsOf curKey l c).sum ∧ fitS (basesOf curKey l c).sum
  ·have e2 := e
   unfold fitS at e2
   simp only [if_pos e, if_pos e2, if_true]; exact ih _
  ·have e2 := e
   unfold fitS at e2
   simp only [if_neg e, if_neg e2]
   rfl
theorem F18.eq (l : List Li) (h : okA l) : F18.f l = some (sumsv l) := by
 unfold F18.f sumsv
 rw [if_pos h.1, cursOf_keys]; exact sumsL_eq l h _ _ (fun c hc => (cursOf_mem l c).1 hc)
end Go.Proofs.YtjeecehhcajfaaaDoor.M
end
section
namespace Go.Proofs.YtjeecehhcajfaaaDoor.M
open Go.RowKit Go.Proofs.YtjeecehhcajfaaaDoorW.PrintWords Go.Proofs.YtjeecehhcajfaaaDoorW.PrintLast
set_option linter.unusedVariables false
set_option linter.unusedSimpArgs false
set_option linter.unusedSectionVars false
def fitL (a : Int) : Prop := -1000000000000 ≤ a ∧ a ≤ 1000000000000
instance (x : Int) : Decidable (fitL x) := by unfold fitL; infer_instance
def asum (l : List Li) (x : Li) : Int := (amtsOf keyL l (keyL x)).sum
def bsum (l : List Li) (x : Li) : Int := (basesOf keyL l (keyL x)).sum
def mline (l : List Li) (x : Li) : Li := ⟨x.f0, x.f1, asum l x, bsum l x, x.f4, x.f5, x.f6⟩
def mv (l : List Li) : List Li → List Li → List Li → List Li × Int
 | [], _, out => (out, 0)
 | x :: r, pre, out => if (pre.any fun y => decide (keyL y = keyL x)) = true then mv l r (pre ++ [x]) out else
   if fitL (asum l x) ∧ fitL (bsum l x) then (if asum l x = 0 ∧ bsum l x = 0 then mv l r (pre ++ [x]) out else mv l r (pre ++ [x]) (out ++ [mline l x])) else ([], 4)
def mergev (l : List Li) : List Li × Int := mv l l [] []
theorem aget_aput {κ ν : Type} [DecidableEq κ] (k : κ) (v : ν) (k' : κ) : ∀ L : List (κ × ν), aget (aput L k v) k' = if k = k' then some v else aget L k'
 | [] => by simp [aput, aget]
 | p :: r => by
  have ih := aget_aput k v k' r
  by_cases c : p.1 = k
  ·subst c; simp only [aput, if_true, aget]
   by_cases c2 : p.1 = k' <;> simp [c2]
  ·simp only [aput, if_neg c, aget, ih]
   by_cases c2 : p.1 = k'
   ·rw [if_pos c2, if_pos c2, if_neg (fun e => c (by rw [c2, e]))]
   ·rw [if_neg c2, if_neg c2]
theorem mergeL_eq (l : List Li) (h : okA l) : ∀ (r pre : List Li) (seen : List (Key × Bool)) (out : List Li), (∀ x ∈ r, x ∈ l) → (∀ k, (aget seen k).getD false = true ↔ ∃ y ∈ pre, keyL y = k) → mergeL (colsOf keyL l) r seen out = some (mv l r pre out)
 | [], _, _, _, _, _ => rfl
 | x :: r, pre, seen, out, hr, hs => by
  have hx : x ∈ l := hr x List.mem_cons_self; have hr2 : ∀ y ∈ r, y ∈ l := fun y hy => hr y (List.mem_cons_of_mem _ hy)
  have hany : (pre.any fun y => decide (keyL y = keyL x)) = true ↔ (aget seen (keyL x)).getD false = true := by
   rw [hs, List.any_eq_true]; simp only [decide_eq_true_eq]
  simp only [mergeL, mv]
  by_cases c : (aget seen (keyL x)).getD false = true
  ·rw [if_pos c, if_pos (hany.2 c)]; refine mergeL_eq l h r _ _ _ hr2 (fun k => ?_); rw [hs k]
   constructor
   ·rintro ⟨y, hy, e⟩; exact ⟨y, List.mem_append_left _ hy, e⟩
   ·rintro ⟨y, hy, e⟩
    rcases List.mem_append.1 hy with hy | hy
    ·exact ⟨y, hy, e⟩
    ·rw [List.mem_singleton] at hy; subst hy; obtain ⟨z, hz, e2⟩ := (hs _).1 c; exact ⟨z, hz, e2.trans e⟩
  ·rw [if_neg c, if_neg (fun hh => c (hany.1 hh))]; obtain ⟨q, hq, h1, h2⟩ := find_col (key := keyL) (l := l) (k := keyL x) ⟨x, hx, rfl⟩; obtain ⟨b1, b2, b3, b4⟩ := amts_in keyL h (keyL x)
   have hs2 : ∀ k, (aget (aput seen (keyL x) true) k).getD false = true ↔ ∃ y ∈ pre ++ [x], keyL y = k := by
    intro k; rw [aget_aput]
    by_cases e : keyL x = k
    ·rw [if_pos e]; exact ⟨fun _ => ⟨x, by simp, e⟩, fun _ => rfl⟩
    ·rw [if_neg e, hs k]
     constructor
     ·rintro ⟨y, hy, e1⟩; exact ⟨y, List.mem_append_left _ hy, e1⟩
     ·rintro ⟨y, hy, e1⟩
      rcases List.mem_append.1 hy with hy | hy
      ·exact ⟨y, hy, e1⟩
      ·rw [List.mem_singleton] at hy; subst hy; exact absurd e1 e
   simp only [hq, h1, h2, bothf.eq 1000000000000 (by omega) (by omega) _ _ b1 b2 b3 b4, Option.bind_some]; have ih := fun o => mergeL_eq l h r _ _ o hr2 hs2
   by_cases e : fitL (asum l x) ∧ fitL (bsum l x)
   ·have e2 := e
    unfold fitL asum bsum at e2
    simp only [if_pos e, if_pos e2, if_true]
    by_cases z : asum l x = 0 ∧ bsum l x = 0
    ·have z2 := z
     unfold asum bsum at z2
     rw [if_pos z, if_pos z2]; exact ih _
    ·have z2 := z
     unfold asum bsum at z2
     rw [if_neg z, if_neg z2]; exact ih _
   ·have e2 := e
    unfold fitL asum bsum at e2
    simp only [if_neg e, if_neg e2]
    rfl
theorem F25.eq (l : List Li) (h : okA l) (ht : ∀ x ∈ l, okTags x.f6) : F25.f l = some (mergev l) := by
 unfold F25.f mergev
 rw [if_pos ⟨h.1, ht⟩]; exact mergeL_eq l h l [] [] [] (fun _ hx => hx) (fun k => by simp [aget])
theorem mv_mem (l : List Li) (T : Li → Prop) (hm : ∀ x, T x → T (mline l x)) : ∀ (r pre out : List Li), (∀ x ∈ r, T x) → (∀ x ∈ out, T x) → (∀ x ∈ (mv l r pre out).1, T x)
 | [], _, out, _, ho => ho
 | x :: r, pre, out, hr, ho => by
  have hr2 : ∀ y ∈ r, T y := fun y hy => hr y (List.mem_cons_of_mem _ hy); simp only [mv]
  split
  ·exact mv_mem l T hm r _ _ hr2 ho
  ·split
   ·split
    ·exact mv_mem l T hm r _ _ hr2 ho
    ·refine mv_mem l T hm r _ _ hr2 (fun y hy => ?_)
     rcases List.mem_append.1 hy with hy | hy
     ·exact ho y hy
     ·rw [List.mem_singleton.1 hy]; exact hm x (hr x List.mem_cons_self)
   ·intro y hy; simp at hy
theorem mv_len (l : List Li) : ∀ (r pre out : List Li), (mv l r pre out).1.length ≤ out.length + r.length
 | [], _, out => by simp [mv]
 | x :: r, pre, out => by
  have ih := fun p o => mv_len l r p o; simp only [mv]
  split
  ·have := ih (pre ++ [x]) out; simp only [List.length_cons]; omega
  ·split
   ·split
    ·have := ih (pre ++ [x]) out; simp only [List.length_cons]; omega
    ·have := ih (pre ++ [x]) (out ++ [mline l x]); simp only [List.length_append, List.length_cons, List.length_nil] at this ⊢
     omega
   ·simp
theorem merge_ok {l : List Li} (h : okA l) (hl : ∀ x ∈ l, okL x) : (mergev l).1.length ≤ l.length ∧ ∀ x ∈ (mergev l).1, okL x :=
 ⟨by have := mv_len l l [] []; simpa [mergev] using this, mv_mem l okL (fun x hx => hx) l [] [] hl (by simp)⟩
def sumP (l : List Li) (p : Li → Bool) (g : Li → Int) : Int := ((l.filter p).map g).sum
theorem sumP_cons (x : Li) (l : List Li) (p : Li → Bool) (g : Li → Int) : sumP (x :: l) p g = (if p x = true then g x else 0) + sumP l p g := by
 unfold sumP
 rw [List.filter_cons]
 by_cases c : p x = true
 ·rw [if_pos c, if_pos c, List.map_cons, List.sum_cons]
 ·rw [if_neg c, if_neg c]; omega
theorem sumP_split (p q r : Li → Bool) (g : Li → Int) : ∀ l : List Li, (∀ y ∈ l, p y = (q y || r y) ∧ (q y && r y) = false) → sumP l p g = sumP l q g + sumP l r g
 | [], _ => rfl
 | x :: l, h => by
  have ih := sumP_split p q r g l (fun y hy => h y (List.mem_cons_of_mem _ hy)); obtain ⟨h1, h2⟩ := h x List.mem_cons_self; rw [sumP_cons, sumP_cons, sumP_cons, ih, h1]
  cases hq : q x <;> cases hr : r x <;> simp [hq, hr] at h2 ⊢ <;> omega
theorem sumP_congr (p q : Li → Bool) (g : Li → Int) (l : List Li) (h : ∀ y ∈ l, p y = q y) : sumP l p g = sumP l q g := by
 unfold sumP
 rw [List.filter_congr h]
theorem sumP_none (p : Li → Bool) (g : Li → Int) (l : List Li) (h : ∀ y ∈ l, p y = false) : sumP l p g = 0 := by
 unfold sumP
 rw [List.filter_eq_nil_iff.2 (fun y hy => by rw [h y hy]; simp)]; rfl
theorem sumP_snoc (l : List Li) (x : Li) (p : Li → Bool) (g : Li → Int) : sumP (l ++ [x]) p g = sumP l p g + (if p x = true then g x else 0) := by
 induction l with
 | nil => rw [List.nil_append, sumP_cons]; simp [sumP]
 | cons y l ih => rw [List.cons_append, sumP_cons, sumP_cons, ih]; omega
abbrev kin (x y : Li) : Bool := decide (keyL x = keyL y)
def newP (pre r : List Li) (c : ByteArray) (y : Li) : Bool := decide (curKey y = c) && (!(pre.any fun z => kin z y) && (r.any fun z => kin z y))
theorem key_cur {x y : Li} (h : keyL x = keyL y) : curKey x = curKey y := by
 have := congrArg (fun k : Key => k.2.1) h; exact this
theorem newP_old (pre r : List Li) (x : Li) (c : ByteArray) (h : (pre.any fun z => kin z x) = true) (y : Li) : newP pre (x :: r) c y = newP (pre ++ [x]) r c y := by
 unfold newP
 by_cases e : keyL y = keyL x
 ·have e2 : (fun z => kin z y) = fun z => kin z x := by funext z; unfold kin; rw [e]
  rw [e2, h, List.any_append, h]; simp
 ·have e2 : kin x y = false := decide_eq_false (fun hh => e hh.symm); rw [List.any_cons, List.any_append, e2]; simp [e2]
theorem newP_new (pre r : List Li) (x : Li) (c : ByteArray) (h : ¬ (pre.any fun z => kin z x) = true) (y : Li) : newP pre (x :: r) c y = ((decide (curKey y = c) && kin y x) || newP (pre ++ [x]) r c y) ∧ ((decide (curKey y = c) && kin y x) && newP (pre ++ [x]) r c y) = false := by
 have h2 : (pre.any fun z => kin z x) = false := by simpa using h
 unfold newP
 by_cases e : keyL y = keyL x
 ·have e2 : (fun z => kin z y) = fun z => kin z x := by funext z; unfold kin; rw [e]
  have e3 : kin y x = true := decide_eq_true e; have e4 : kin x x = true := decide_eq_true rfl; rw [e2, h2, List.any_append, h2, List.any_cons, e3, e4]
  simp [e4]
 ·have e2 : kin x y = false := decide_eq_false (fun hh => e hh.symm); have e3 : kin y x = false := decide_eq_false e; rw [List.any_cons, List.any_append, e2, e3]; simp [e2]
section
variable (l : List Li)
theorem key_sum (g G : Li → Int) (hG : ∀ x, G x = sumP l (fun y => kin y x) g) (c : ByteArray) (x : Li) : sumP l (fun y => decide (curKey y = c) && kin y x) g = if curKey x = c then G x else 0 := by
 by_cases e : curKey x = c
 ·rw [if_pos e, hG]; refine sumP_congr _ _ _ _ (fun y _ => ?_)
  by_cases e2 : keyL y = keyL x
  ·rw [decide_eq_true ((key_cur e2).trans e), Bool.true_and]
  ·rw [show kin y x = false from decide_eq_false e2, Bool.and_false]
 ·rw [if_neg e]; refine sumP_none _ _ _ (fun y _ => ?_)
  by_cases e2 : keyL y = keyL x
  ·rw [decide_eq_false (fun hh => e ((key_cur e2).symm.trans hh)), Bool.false_and]
  ·rw [show kin y x = false from decide_eq_false e2, Bool.and_false]
theorem mv_sums (g G : Li → Int) (hG : ∀ x, G x = sumP l (fun y => kin y x) g) (hm : ∀ x, g (mline l x) = G x) (hz : ∀ x, asum l x = 0 ∧ bsum l x = 0 → G x = 0) (c : ByteArray) :
  ∀ (r pre out m : List Li), mv l r pre out = (m, 0) → sumP m (fun y => decide (curKey y = c)) g = sumP out (fun y => decide (curKey y = c)) g + sumP l (newP pre r c) g
 | [], pre, out, m, h => by
  simp only [mv, Prod.mk.injEq, and_true] at h; subst h; rw [sumP_none (newP pre [] c) _ _ (fun y _ => by simp [newP])]; omega
 | x :: r, pre, out, m, h => by
  have ih := mv_sums g G hG hm hz c r (pre ++ [x]); simp only [mv] at h
  split at h
  ·rename_i hp
   rw [ih out m h, sumP_congr (newP pre (x :: r) c) _ _ _ (fun y _ => newP_old pre r x c hp y)]
  ·rename_i hp
   have hs := sumP_split _ _ _ g l (fun y _ => newP_new pre r x c hp y); rw [key_sum l g G hG c x] at hs
   split at h
   ·split at h
    ·rename_i z
     rw [ih out m h, hs, hz x z]
     split <;> omega
    ·rw [ih _ m h, hs, sumP_snoc]; have e : curKey (mline l x) = curKey x := rfl; simp only [decide_eq_true_eq, e, hm]
     omega
   ·cases h
theorem merge_amts (m : List Li) (h : mergev l = (m, 0)) (c : ByteArray) : (amtsOf curKey m c).sum = (amtsOf curKey l c).sum := by
 have := mv_sums l (·.f2) (asum l) (fun x => rfl) (fun x => rfl) (fun x hx => hx.1) c l [] [] m h
 have e : sumP l (newP [] l c) (·.f2) = sumP l (fun y => decide (curKey y = c)) (·.f2) := sumP_congr _ _ _ _ (fun y hy => by
  have : (l.any fun z => kin z y) = true := List.any_eq_true.2 ⟨y, hy, decide_eq_true rfl⟩
  unfold newP
  rw [this]; simp)
 rw [e] at this; have e0 : sumP [] (fun y => decide (curKey y = c)) (·.f2) = 0 := rfl; rw [e0] at this; show sumP m _ _ = sumP l _ _; rw [this]; omega
theorem merge_bases (m : List Li) (h : mergev l = (m, 0)) (c : ByteArray) : (basesOf curKey m c).sum = (basesOf curKey l c).sum := by
 have := mv_sums l (·.f3) (bsum l) (fun x => rfl) (fun x => rfl) (fun x hx => hx.2) c l [] [] m h
 have e : sumP l (newP [] l c) (·.f3) = sumP l (fun y => decide (curKey y = c)) (·.f3) := sumP_congr _ _ _ _ (fun y hy => by
  have : (l.any fun z => kin z y) = true := List.any_eq_true.2 ⟨y, hy, decide_eq_true rfl⟩
  unfold newP
  rw [this]; simp)
 rw [e] at this; have e0 : sumP [] (fun y => decide (curKey y = c)) (·.f3) = 0 := rfl; rw [e0] at this; show sumP m _ _ = sumP l _ _; rw [this]; omega
theorem mv_T (T : Li → Prop) (hT : ∀ x ∈ l, fitL (asum l x) ∧ fitL (bsum l x) → ¬ (asum l x = 0 ∧ bsum l x = 0) → T (mline l x)) : ∀ (r pre out : List Li), (∀ x ∈ r, x ∈ l) → (∀ z ∈ out, T z) → ∀ z ∈ (mv l r pre out).1, T z
 | [], _, out, _, ho => ho
 | x :: r, pre, out, hr, ho => by
  have hr2 : ∀ y ∈ r, y ∈ l := fun y hy => hr y (List.mem_cons_of_mem _ hy); simp only [mv]
  split
  ·exact mv_T T hT r _ _ hr2 ho
  ·split
   ·split
    ·exact mv_T T hT r _ _ hr2 ho
    ·rename_i hf hz
     refine mv_T T hT r _ _ hr2 (fun y hy => ?_)
     rcases List.mem_append.1 hy with hy | hy
     ·exact ho y hy
     ·rw [List.mem_singleton.1 hy]; exact hT x (hr x List.mem_cons_self) hf hz
   ·intro y hy; simp at hy
theorem mv_nodup : ∀ (r pre out : List Li), (out.map keyL).Nodup → (∀ z ∈ out, ∃ y ∈ pre, keyL y = keyL z) → ((mv l r pre out).1.map keyL).Nodup
 | [], _, out, h, _ => h
 | x :: r, pre, out, h, ho => by
  have ho2 : ∀ z ∈ out, ∃ y ∈ pre ++ [x], keyL y = keyL z := fun z hz => by
   obtain ⟨y, hy, e⟩ := ho z hz; exact ⟨y, List.mem_append_left _ hy, e⟩
  simp only [mv]
  split
  ·exact mv_nodup r _ _ h ho2
  ·rename_i hp
   split
   ·split
    ·exact mv_nodup r _ _ h ho2
    ·refine mv_nodup r _ _ ?_ (fun z hz => ?_)
     ·rw [List.map_append, List.nodup_append]; refine ⟨h, by simp, fun a ha b hb e => ?_⟩; simp only [List.map_cons, List.map_nil, List.mem_singleton] at hb; obtain ⟨z, hz, rfl⟩ := List.mem_map.1 ha; obtain ⟨y, hy, e2⟩ := ho z hz; exact hp (List.any_eq_true.2 ⟨y, hy, decide_eq_true (e2.trans (e.trans hb))⟩)
     ·rcases List.mem_append.1 hz with hz | hz
      ·exact ho2 z hz
      ·rw [List.mem_singleton.1 hz]; exact ⟨x, by simp, rfl⟩
   ·simp
end
theorem mv_again (m : List Li) (hd : (m.map keyL).Nodup) (hf : ∀ z ∈ m, fitL z.f2 ∧ fitL z.f3 ∧ ¬ (z.f2 = 0 ∧ z.f3 = 0)) : ∀ (r pre : List Li), pre ++ r = m → mv m r pre pre = (m, 0)
 | [], pre, e => by simp [mv, ← e]
 | x :: r, pre, e => by
  have hx : x ∈ m := by rw [← e]; simp
  obtain ⟨f1, f2, f3⟩ := hf x hx; have hd2 := hd; rw [← e, List.map_append, List.map_cons, List.nodup_append] at hd2; obtain ⟨_, d2, d3⟩ := hd2; rw [List.nodup_cons] at d2; have hp : ∀ y ∈ pre, ¬ keyL y = keyL x := fun y hy => d3 (keyL y) (List.mem_map.2 ⟨y, hy, rfl⟩) (keyL x) List.mem_cons_self; have hr : ∀ y ∈ r, ¬ keyL y = keyL x := fun y hy e2 => d2.1 (List.mem_map.2 ⟨y, hy, e2⟩)
  have hno : (pre.any fun y => decide (keyL y = keyL x)) = false := by
   rw [List.any_eq_false]; intro y hy; simpa using hp y hy
  have hfil : m.filter (fun y => decide (keyL y = keyL x)) = [x] := by
   rw [← e, List.filter_append, List.filter_cons]; rw [List.filter_eq_nil_iff.2 (fun y hy => by simpa using hp y hy), List.filter_eq_nil_iff.2 (fun y hy => by simpa using hr y hy)]
   simp
  have ha : asum m x = x.f2 := by unfold asum amtsOf; rw [hfil]; simp
  have hb : bsum m x = x.f3 := by unfold bsum basesOf; rw [hfil]; simp
  have hm : mline m x = x := by unfold mline; rw [ha, hb]
  simp only [mv, hno, Bool.false_eq_true, if_false, ha, hb, hm, if_pos (And.intro f1 f2), if_neg f3]; exact mv_again m hd hf r (pre ++ [x]) (by rw [← e]; simp)
theorem merged (l m : List Li) (hl : ∀ x ∈ l, okL x) (h : mergev l = (m, 0)) : m.length ≤ l.length ∧ (∀ z ∈ m, okL z ∧ fitL z.f2 ∧ fitL z.f3 ∧ ∃ x ∈ l, curKey x = curKey z) ∧ mergev m = (m, 0) := by
 have e : m = (mv l l [] []).1 := by
  have : (mergev l).1 = m := by rw [h]
  exact this.symm
 have hT := mv_T l (fun z => okL z ∧ fitL z.f2 ∧ fitL z.f3 ∧ ¬ (z.f2 = 0 ∧ z.f3 = 0) ∧ ∃ x ∈ l, curKey x = curKey z) (fun x hx hf hz => ⟨hl x hx, hf.1, hf.2, hz, x, hx, rfl⟩) l [] [] (fun _ hx => hx) (by simp); rw [← e] at hT; have hd := mv_nodup l l [] [] (by simp) (by simp); rw [← e] at hd; have hln := mv_len l l [] []; rw [← e] at hln; exact ⟨by simpa using hln, fun z hz => ⟨(hT z hz).1, (hT z hz).2.1, (hT z hz).2.2.1, (hT z hz).2.2.2.2⟩, mv_again m hd (fun z hz => ⟨(hT z hz).2.1, (hT z hz).2.2.1, (hT z hz).2.2.2.1⟩) m [] rfl⟩
theorem mergev_err (l : List Li) : (mergev l).2 = 0 ∨ (mergev l).1 = [] := by
 have : ∀ r pre out, (mv l r pre out).2 = 0 ∨ (mv l r pre out).1 = [] := by
  intro r
  induction r with
  | nil => intro pre out; exact .inl rfl
  | cons x r ih =>
   intro pre out; simp only [mv]
   split
   ·exact ih _ _
   ·split
    ·split
     ·exact ih _ _
     ·exact ih _ _
    ·exact .inr rfl
 exact this l [] []
theorem balv_iff (l : List Li) : balv l = true ↔ ∀ c, (amtsOf curKey l c).sum = 0 ∧ (basesOf curKey l c).sum = 0 := by
 unfold balv
 rw [List.all_eq_true]
 constructor
 ·intro h c
  by_cases e : ∃ x ∈ l, curKey x = c
  ·obtain ⟨x, hx, rfl⟩ := e; have := h x hx
   unfold bal1 at this
   exact of_decide_eq_true this
  ·have hf : l.filter (fun x => decide (curKey x = c)) = [] := by
    rw [List.filter_eq_nil_iff]; intro x hx hh; exact e ⟨x, hx, of_decide_eq_true hh⟩
   unfold amtsOf basesOf
   rw [hf]; exact ⟨rfl, rfl⟩
 ·intro h x hx
  unfold bal1
  exact decide_eq_true (h x.f1)
theorem merge_bal (l m : List Li) (h : mergev l = (m, 0)) : balv m = balv l := by
 rw [Bool.eq_iff_iff, balv_iff, balv_iff]
 constructor
 ·intro hh c; have := hh c; rw [merge_amts l m h, merge_bases l m h] at this; exact this
 ·intro hh c; rw [merge_amts l m h, merge_bases l m h]; exact hh c
def smOf (l : List Li) (c : ByteArray) : Sm := ⟨c, (amtsOf curKey l c).sum, (basesOf curKey l c).sum⟩
theorem sumsV_form (l : List Li) : ∀ (C : List ByteArray) (out : List Sm), sumsV l C out = (out ++ C.map (smOf l), 0) ∨ sumsV l C out = ([], 4)
 | [], out => .inl (by simp [sumsV])
 | c :: C, out => by
  have ih := sumsV_form l C (out ++ [smOf l c]); rw [List.append_assoc] at ih; simp only [sumsV]
  split
  ·exact ih
  ·exact .inr rfl
theorem sumsv_form (l : List Li) : sumsv l = ((cursOf l).map (smOf l), 0) ∨ sumsv l = ([], 4) := by
 have := sumsV_form l (cursOf l) []
 rwa [List.nil_append] at this
end Go.Proofs.YtjeecehhcajfaaaDoor.M
end
section
namespace Go.Proofs.YtjeecehhcajfaaaDoor.M
open Go.RowKit Go.Proofs.YtjeecehhcajfaaaDoorW.PrintWords Go.Proofs.YtjeecehhcajfaaaDoorW.PrintLast
set_option linter.unusedVariables false
set_option linter.unusedSimpArgs false
set_option linter.unusedSectionVars false
def sqv (a b : Sm) : Bool := a.f0.toList == b.f0.toList && (a.f1 == b.f1 && (a.f2 == b.f2))
theorem sqv_self (a : Sm) : sqv a a = true := by simp [sqv]
section
variable (l m : List Li) (S : List Sm) (e : Int)
theorem cons.l1 (S2 : List Sm) (e2 : Int) (h2 : S2.length ≤ 1000000) (i : Nat) (hi : i < S.length) (hS : S.length ≤ 1000000) (R : Bool) (hR : Ev (fun k => F9.l0 k l m S e ((i + 1 : Nat) : Int) months) R) :
  ∀ (n j : Nat) (b : Bool), j + n = S2.length → (e2 = 0 → (b || (S2.drop j).any (fun u => sqv u S[i])) = true) → Ev (fun k => F9.l1 k l m S e (i : Int) S2 e2 b (j : Int) months) R
 | 0, j, b, hj, hb => by
  refine Ev.succ ?_; simp only [F9.l1, if_neg (show ¬ (j : Int) < (S2.length : Int) by omega), w64s (show i ≤ 1000000000 by omega)]
  by_cases z : e2 = 0
  ·have := hb z; rw [List.drop_eq_nil_of_le (by omega)] at this; simp only [List.any_nil, Bool.or_false] at this; subst this; simp only [if_pos z, if_true]; exact hR
  ·simp only [if_neg z]; exact hR
 | n + 1, j, b, hj, hb => by
  have hlt : j < S2.length := by omega
  have hrd : rd_T61 S2 (j : Int) = S2[j] := by simp [rd_T61, hlt]
  have hri : rd_T61 S (i : Int) = S[i] := by simp [rd_T61, hi]
  refine Ev.succ ?_; simp only [F9.l1, if_pos (show (j : Int) < (S2.length : Int) by omega), w64s (show j ≤ 1000000000 by omega), if_pos (show (0 : Int) ≤ (j : Int) by omega), if_pos (show (0 : Int) ≤ (i : Int) by omega), if_pos (show (i : Int) < (S.length : Int) by omega), hrd, hri]
  cases b with
  | true =>
   simp only [if_true]; exact cons.l1 S2 e2 h2 i hi hS R hR n (j + 1) true (by omega) (fun _ => rfl)
  | false =>
   simp only [Bool.false_eq_true, if_false]; refine cons.l1 S2 e2 h2 i hi hS R hR n (j + 1) (sqv S2[j] S[i]) (by omega) (fun z => ?_); have := hb z; rw [List.drop_eq_getElem_cons hlt, List.any_cons, Bool.false_or] at this; exact this
end
section
variable (l m : List Li) (h : okA l) (hl : ∀ x ∈ l, okL x) (hm : mergev l = (m, 0)) (hA : okA m) (hk : ∀ z ∈ m, okL z) (hc : ∀ z ∈ m, ∃ x ∈ l, curKey x = curKey z) (hmm : mergev m = (m, 0))
include h hl hm hA hk hc hmm
theorem cons.end_ (S : List Sm) (e : Int) (i : Int) : Ev (fun k => F9.j2 k l m S e i false months) true := by
 refine Ev.succ ?_; simp only [F9.j2, Bool.false_eq_true, if_false]; refine Ev.bind (Ev.of (fun _ => F25.eq m hA (fun z hz => (hk z hz).2.2.2.2))) ?_; rw [hmm]; simp only [if_true]; refine Ev.bind (refSameLines.eq m m hA.1 hk) ?_; simp only [sameLsv_eq.2 rfl, if_true]; exact Ev.bind F13.true (Ev.const _)
theorem cons.l0 (S : List Sm) (e : Int) (hS : S.length ≤ 1000000) (hSe : ∀ s ∈ S, e = 0 ∧ ((sumsv l).2 = 0 → (sumsv l).1.any (fun u => sqv u s) = true)) : ∀ (n i : Nat), i + n = S.length → Ev (fun k => F9.l0 k l m S e (i : Int) months) true
 | 0, i, hi => by
  refine Ev.succ ?_; simp only [F9.l0, if_neg (show ¬ (i : Int) < (S.length : Int) by omega)]; exact cons.end_ l m h hl hm hA hk hc hmm S e _
 | n + 1, i, hi => by
  have hlt : i < S.length := by omega
  obtain ⟨e0, e1⟩ := hSe S[i] (List.getElem_mem hlt); have ih := cons.l0 S e hS hSe n (i + 1) (by omega); refine Ev.succ ?_; simp only [F9.l0, if_pos (show (i : Int) < (S.length : Int) by omega), show (e == 0) = true from beq_iff_eq.2 e0]; refine Ev.succ ?_; simp only [F9.j2, if_true]; refine Ev.bind (Ev.of (fun _ => F18.eq l h)) ?_
  have h2 : (sumsv l).1.length ≤ 1000000 := by
   have h3 := cursOf_len l; have h4 := h.1
   rcases sumsv_form l with hh | hh
   ·rw [hh]; simp only [List.length_map]; omega
   ·rw [hh]; simp
  refine cons.l1 l m S e (sumsv l).1 (sumsv l).2 h2 i hlt hS true ih (sumsv l).1.length 0 false (by omega) (fun z => ?_); rw [List.drop_zero, Bool.false_or]; exact e1 z
theorem cons.j0 : Ev (fun k => F9.j0 k l m false months) true := by
 refine Ev.succ ?_; simp only [F9.j0, Bool.false_eq_true, if_false]; refine Ev.bind (Ev.of (fun _ => F18.eq m hA)) ?_; have h3 := cursOf_len m; have h4 := hA.1
 rcases sumsv_form m with hh | hh
 ·rw [hh]; refine cons.l0 l m h hl hm hA hk hc hmm _ _ (by rw [List.length_map]; omega) (fun s hs => ⟨rfl, fun z => ?_⟩) _ 0 (by rw [Nat.zero_add]); obtain ⟨c, hcm, rfl⟩ := List.mem_map.1 hs
  have hcl : c ∈ cursOf l := by
   obtain ⟨z1, hz1, e1⟩ := (cursOf_mem m c).1 hcm; obtain ⟨x, hx, e2⟩ := hc z1 hz1; exact (cursOf_mem l c).2 ⟨x, hx, e2.trans e1⟩
  have es : smOf m c = smOf l c := by unfold smOf; rw [merge_amts l m hm, merge_bases l m hm]
  rcases sumsv_form l with hq | hq
  ·rw [hq, List.any_eq_true]; exact ⟨smOf l c, List.mem_map.2 ⟨c, hcl, rfl⟩, by rw [es]; exact sqv_self _⟩
  ·rw [hq] at z; exact absurd z (by decide)
 ·rw [hh]; exact cons.l0 l m h hl hm hA hk hc hmm _ _ (by simp) (fun s hs => by simp at hs) 0 0 rfl
end
theorem pure_EntryConserve : F9.Pure := by
 intro x hx; refine Ev.out (g := fun k => F9.f k x months) ?_
 unfold F9.f
 obtain ⟨b, hb, hb2⟩ := F12.ok x; refine Ev.bind hb ?_
 cases b with
 | false =>
  simp only [Bool.false_eq_true, if_false]; exact Ev.bind F13.true (Ev.const _)
 | true =>
  simp only [if_true]; obtain ⟨n1, t1⟩ := hb2 rfl; have hA := G24_okA2 hx.2 n1; have hL : ∀ z ∈ x, okL z := fun z hz => G24_ok (hx.2 z hz) (t1 z hz); refine Ev.bind (Ev.of (fun _ => F25.eq x hA (fun z hz => (hL z hz).2.2.2.2))) ?_
  by_cases e : (mergev x).2 = 0
  ·obtain ⟨m, hm⟩ : ∃ m, mergev x = (m, 0) := ⟨(mergev x).1, by rw [← e]⟩; obtain ⟨m1, m2, m3⟩ := merged x m hL hm
   have hAm : okA m := ⟨by have := hA.1; omega, fun z hz => by
    obtain ⟨_, f1, f2, _⟩ := m2 z hz
    unfold fitL at f1 f2
    exact ⟨by unfold inW; omega, by unfold inW; omega⟩⟩
   rw [hm]; simp only [if_true]; refine Ev.bind (Ev.of (fun _ => F23.eq m hAm)) (Ev.bind (Ev.of (fun _ => F23.eq x hA)) ?_); rw [merge_bal x m hm]; simp only [bne_self_eq_false, Bool.false_eq_true, if_false, decide_eq_false (show ¬ (m.length : Int) > (x.length : Int) by omega)]; exact cons.j0 x m hA hL hm hAm (fun z hz => (m2 z hz).1) (fun z hz => (m2 z hz).2.2.2) m3
  ·have e2 : (mergev x).1 = [] := (mergev_err x).resolve_left e; simp only [if_neg e, e2, List.length_nil]; exact Ev.bind F13.true (Ev.const _)
end Go.Proofs.YtjeecehhcajfaaaDoor.M
namespace Go.Proofs.YtjeecehhcajfaaaDoor.Pure
theorem EntryConserve : M.F9.Pure := M.pure_EntryConserve
end Go.Proofs.YtjeecehhcajfaaaDoor.Pure
end
section
namespace Go.Proofs.YtjeecehhcajfaaaDoor.M
open Go.ChangeShapes Go.WideShapes Go.ChangeAt Go.RowKit Go.Proofs.YtjeecehhcajfaaaDoorW.PrintWords Go.Proofs.YtjeecehhcajfaaaDoorW.PrintLast
abbrev laidL : List (String × DataW Unit) := [("accounting/days.lengths", Rows.laid_accounting_days_lengths)]
theorem gLen : Tryd.prog.globalNamed "accounting/days.lengths" = some 0 := by kernel_rfl
theorem tLen : (Tryd.prog.globals[0]?).map (·.type) = some 136 := by kernel_rfl
theorem cLen : Tryd.prog.cellsOf 136 = 12 := by kernel_rfl
theorem cInt : Tryd.prog.cellsOf 3 = 1 := by kernel_rfl
set_option maxRecDepth 100000 in
theorem tab_of_laid {W : World} (h : laidMetH Tryd.prog laidL W) : Tab W := by
 rw [MakeChecks.laidMetH_plain _ _ _ (by kernel_rfl)] at h; obtain ⟨ps, ⟨g0, t0, cs0, f0, p0, q0, hg0, ht0, hv0, hd0, _⟩, _⟩ := h; obtain rfl := Option.some.inj (gLen.symm.trans hg0); obtain rfl := Option.some.inj (tLen.symm.trans ht0); obtain ⟨xs, m1, rfl, hx1, hlen, hn3, hel⟩ := DataW.trod_array Tryd.underlying136 hd0
 have hxs : xs.map (·.1) = months.map (fun n => (DataW.lit (.int .i64 n) : DataW Unit)) := by
  have e := congrArg (fun y : DataW Unit × List MemPlace => y.1) hx1
  unfold Rows.laid_accounting_days_lengths at e
  injection e with e
  exact e.symm
 have each : ∀ i, i < 12 → cs0.toList[i]? = (months[i]?).map (Value.int .i64) := by
  intro i hi; have h1 := hel i hi; rw [cInt, Nat.mul_one] at h1; obtain ⟨x, hx⟩ : ∃ x, xs[i]? = some x := ⟨xs[i], List.getElem?_eq_getElem (by omega)⟩; rw [hx] at h1; obtain ⟨n, e1, e2, _⟩ := DataW.trod_int Tryd.underlying3 h1; have e3 := congrArg (fun l => l[i]?) hxs; simp only [List.getElem?_map, hx, Option.map_some, e2] at e3; have e4 := congrArg (fun l => l[0]?) e1; simp only [List.getElem?_take, List.getElem?_drop, Nat.add_zero, Nat.zero_lt_one, if_true, List.getElem?_cons_zero] at e4; rw [e4]
  cases hm : months[i]? with
  | none => rw [hm] at e3; cases e3
  | some m =>
   rw [hm] at e3; simp only [Option.map_some, Option.some.injEq, DataW.lit.injEq, Lit.int.injEq, true_and] at e3; rw [e3]
   rfl
 have hcs : cs0 = (months.map (Value.int .i64)).toArray := by
  rw [← Array.toList_inj]; apply List.ext_getElem?; intro i
  by_cases hi : i < 12
  ·rw [each i hi, List.getElem?_map]
  ·rw [List.getElem?_eq_none (by rw [hlen, cLen]; omega), List.getElem?_eq_none (by simp [months]; omega)]
 have hv := hv0; simp only [World.var?, gLen, Option.bind_some] at hv
 split at hv
 ·rename_i cs t fr hb
  obtain rfl := Option.some.inj hv; exact ⟨t, fr, by rw [hb, hcs]⟩
 ·cases hv
theorem door_met (os : Os) (args : Array Value) : laidMetH Tryd.prog laidL ((World.doorLaid Tryd.prog 400 os).forCall (fun _ _ => 0) ⟨#[], args, []⟩).memory :=
 laidMetH_of_parts3 (fuel := 8) (laidMet_of_run' 8 (by kernel_rfl) (by kernel_rfl)) (by kernel_rfl) (by kernel_rfl)
end Go.Proofs.YtjeecehhcajfaaaDoor.M
end
section
namespace Go.Proofs.YtjeecehhcajfaaaDoor.entryConserve
open Go.ChangeShapes Go.WideShapes Go.ChangeAt Go.RowKit Go.Proofs.YtjeecehhcajfaaaDoor.M Go.Proofs.YtjeecehhcajfaaaDoorW.PrintWords Go.Proofs.YtjeecehhcajfaaaDoorW.PrintLast
open Go.ChangeMaps (open_string shut_string)
set_option linter.unusedVariables false
theorem own : ownKnob Tryd.prog.godebug = none := by kernel_rfl
theorem laidOut : laidOutB Tryd.prog = true := by kernel_rfl
set_option maxRecDepth 100000 in
set_option maxHeartbeats 4000000 in
theorem lifted (os : Os) (started : os.Started) (H : Type) (enc : TypeId × Value → H) :
  ReturnsInHanded {} Tryd.checked os 9 .any (fun w args => (Rows.entryConserveSpec.pre enc Tryd.prog Tryd.f9 Rows.entryConserveRow.domain false w args ∧ laidMetH Tryd.prog Rows.entryConserveRow.laid w) ∧ sizedMet enc Tryd.prog Tryd.f9 (OpenSpec.ofChange Rows.entryConserveSpec) false w args) (Rows.entryConserveSpec.post enc Tryd.prog Tryd.f9 false true false false) := by
 refine returnsInHanded_of_change_and (C := Tryd.checked) (X := fun w _ => laidMetH Tryd.prog Rows.entryConserveRow.laid w) (fun _ _ _ hh h => h.of_heap hh) own started (by kernel_rfl) Tryd.func9
  (ChangeSpec.witness_shaped (enc := enc) (C := Tryd.checked) (os := os) (X := fun w _ => laidMetH Tryd.prog Rows.entryConserveRow.laid w) false (World.doorLaid Tryd.prog 400 os) #[.slice none 0 0] 8 rfl (World.shaped_of_RefB (by kernel_rfl) (by kernel_rfl)) (by kernel_rfl) (by kernel_rfl) (by kernel_rfl) (door_met os _)) ?_
 intro W base args ds gs before hval0 hW hcnd hsz0 hL _; have hsz : (DataW.weightsEach Tryd.prog (Tryd.f9.params.toList ++ Rows.entryConserveSpec.plain.varTypes Tryd.prog) (ds ++ gs)).all (· ≤ reachBytes) = true := hsz0; have hval : ∀ (j : Nat) t v, Tryd.f9.params[j]? = some t → args[j]? = some v → Value.okWide Tryd.prog W .any base t v := hval0; have hW' := hW; obtain ⟨p, q, hA0, hV, rfl, hfz, hnd⟩ := hW; have hA : DataW.TrodAll enc Tryd.prog W 0 (fun _ => true) true Tryd.f9.params.toList args.toList ds p := hA0; rw [Tryd.params9] at hA hval hsz; obtain ⟨v0, vs0, d0, ds0, p0, q0, hargs, rfl, rfl, h0, r0⟩ := trodAll_cons hA; obtain ⟨rfl, rfl, rfl⟩ := trodAll_nil r0; obtain rfl : args = #[v0] := by cases args; simp_all
 obtain ⟨rfl, rfl⟩ := trodVars_none hV; obtain ⟨a0, len0, cap0, rfl⟩ := okWide_slice Tryd.underlying26 (hval 0 26 v0 rfl rfl); have k0 := h0; have lt0 : ∀ x ∈ p0, x.block < W.heap.size := by obtain ⟨m, hm⟩ := k0; exact DataW.trod_lt m _ _ _ hm
 obtain ⟨x0, K0, g0⟩ : ∃ x_ : List (S24), (Kd.slice 24 k24).K W x_ [.slice a0 len0 cap0] ∧ (x_.length * 104 ≤ 140737488351232 ∧ ∀ y0_ ∈ x_, G24 y0_) := by obtain ⟨f, hf⟩ := h0; exact ((Opens.slice Tryd.underlying26 opens24 (by kernel_rfl) (b := 104) (by kernel_rfl))).get enc W 0 _ _ f _ _ hf (weights_at hsz (j := 0) (t := 26) rfl rfl)
 obtain ⟨A0, c0, e0, L0, C0⟩ := K0; injection e0 with e0 _
 injection e0 with e0a e0b e0c
 subst e0a e0b e0c; clear hA0 hval0 hsz0 hsz; obtain ⟨k, h⟩ := Pure.EntryConserve x0 g0; refine (M.F9.calls (k := k) (r := true) (w := W) (hr0 := C0) (hc0 := L0) (hr1 := kTab_of (tab_of_laid hL)) (hc1 := Nat.le_refl _) (h := h)).mono fun e W' ⟨he, bel0⟩ => ?_; have bel : Below W.heap.size W W' := by first | exact bel0 | exact bel0.below | (obtain ⟨nd, rfl⟩ := bel0; exact pw_below_drewN (Below.refl _ _) nd)
 subst he; exact ⟨_, rfl, _, _, _, [], _, [], hW', trodAll_mk1 (shut_bool Tryd.underlying4 _), (trodAll_cons_mk (Below.trod laidOut (by kernel_rfl) (of_decide_eq_true (by kernel_rfl)) k0 bel lt0) trodAll_mk0), rfl, bel.frame _, fun h => by cases h⟩
theorem over : Rows.entryConserveRow.holds Tryd.pinned (OpenSpec.ofChange Rows.entryConserveSpec) :=
 OpenClaim.holds_of_wide 9 Tryd.f9 rfl rfl rfl rfl rfl rfl rfl ⟨rfl, rfl, rfl, rfl, rfl⟩ rfl rfl rfl rfl rfl (by kernel_rfl) Tryd.func9 (by kernel_rfl)
  (of_decide_eq_true (by kernel_rfl)) (by unfold Func.isWrapper; first | (rw [if_pos (by decide +kernel)]; kernel_rfl) | (rw [if_neg (by decide +kernel)]; exact ⟨rfl, rfl⟩))
  (fun os started H enc _ => lifted os started H enc)
theorem proved : Rows.EntryConserveCardSaid :=
 Claim7.holds_tied_plain_at .later [] [.data] true (true, "be3c0a6bf7d168cfecf7312c4a458ffdf88559f71113c4694bf92cbd7a7be984") false
  over (fun _ h => by cases h) (by kernel_rfl) (fun _ h => by cases h) entryConserve_row_tie rfl ⟨rfl, rfl⟩ (by kernel_rfl) rfl
  (fun f fn hf hfn => by
   obtain rfl : f = 9 := Option.some.inj ((show Tryd.prog.funcNamed "accounting/accountinglaw12.EntryConserve" = some 9 by kernel_rfl).symm.trans hf) |>.symm; obtain rfl : fn = Tryd.f9 := (Option.some.inj (Tryd.func9.symm.trans hfn)).symm
   exact ⟨by kernel_rfl, fun j t ht => by
    rw [Tryd.params9] at ht; have hm : t ∈ [26] := by simpa using Array.mem_of_getElem? ht
    have hall : ([26].all fun u => !Tryd.prog.wantsStandIn u) = true := by kernel_rfl
    exact (show Tryd.prog.wantsStandIn t = false by simpa using List.all_eq_true.1 hall t hm)⟩)
  (by kernel_rfl)
#print axioms proved
end Go.Proofs.YtjeecehhcajfaaaDoor.entryConserve
namespace Go.Proofs.YtjeecehhcajfaaaDoor
theorem entryConserve_holds : Rows.EntryConserveCardSaid := entryConserve.proved
end Go.Proofs.YtjeecehhcajfaaaDoor
end
