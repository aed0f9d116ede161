/- What the claims of this seat share, part 8 of 9: what the program's functions compute. -/
import Derived.Test.YtadognlkefhoiaaQBB2
import Derived.Test.YtadognlkefhoiaaQBB7
import Derived.Test.YtadognlkefhoiaaQBB3
import Derived.Test.YtadognlkefhoiaaQBB1
import Derived.Test.YtadognlkefhoiaaQBB4
import Derived.Deep.RegionHeld3
import Derived.Laws.EntriesVeiled
import Derived.SizedLaws
import Derived.ChangeArms
import Derived.ChangeShapes
import Derived.DataReads
namespace Go.Proofs.Ytadognlkefhoiaa.M
theorem pbb8_0 {p : Prop} (h : p := by first | exact Kd.R_nil _ _ _ _ _ | exact Kd.N_nil _ _ _ _ _ | exact Kd.V_nil _ _ _ _ _ | exact Kd.Q_nil _ _ _ _ _ | exact Kd.S_nil _ _ _ _ _) : p := h
theorem pbb8_1 {p : Prop} (h : p := by (with_reducible repeat (first | apply Kd.R_alloc | apply Kd.R_drewN | apply Kd.R_drew)); exact HO103.out) : p := h
theorem pbb8_2 {p : Prop} (h : p := by repeat (first | (with_reducible exact HR109.out) | (with_reducible refine Kd.C_alloc ?_ _) | (with_reducible refine Kd.C_drewN ?_ _) | (with_reducible refine Kd.C_drew ?_) | exact HR109.out)) : p := h
end Go.Proofs.Ytadognlkefhoiaa.M
section
namespace Go.Proofs.Ytadognlkefhoiaa.M
open Go.RowKit Go.Proofs.YtadognlkefhoiaaW.PrintWords Go.Proofs.YtadognlkefhoiaaW.PrintLast Go.Proofs.YtadognlkefhoiaaW.PrintMore
attribute [local go_sem] max2_int min2_int max_two min_two max_three min_three max_four min_four
set_option linter.unusedVariables false
set_option linter.unusedSimpArgs false
mutual
def split_Shares.j0 : Nat → Int → List Int → Bool → Option (List Int × Int)
  | 0, _, _, _ => none
  | k + 1, x0, x1, x16 => if x16 = true then (some (([] : List Int), 4)) else ((split_total.f k x1).bind fun bt101 => (if bt101.2 = 0 then (if x0 < 0 then ((split_divide.f k (wrap64 (-x0)) bt101.1 x1).bind fun t103 => (split_Shares.l0 k t103 (t103.length : Int) 0)) else ((split_divide.f k x0 bt101.1 x1).bind fun t108 => (some (t108, 0)))) else (some (([] : List Int), bt101.2))))
def split_Shares.l0 : Nat → List Int → Int → Int → Option (List Int × Int)
  | 0, _, _, _ => none
  | k + 1, x4, x33, x34 => if x34 < x33 then (if 0 ≤ x34 then (if x34 < (x4.length : Int) then (split_Shares.l0 k (x4.set (x34 : Int).toNat (wrap64 (-(rd x4 x34)))) x33 (wrap64 (x34 + 1))) else (none)) else (none)) else (some (x4, 0))
end
def split_Shares.f (k : Nat) (a0 : Int) (l1 : List Int) : Option (List Int × Int) := if (l1.length : Int) > 200 then (some (([] : List Int), 9)) else (if a0 > 1000000000000000 then (split_Shares.j0 k a0 l1 true) else (split_Shares.j0 k a0 l1 (decide (a0 < (-1000000000000000)))))
theorem split_Shares.mono_l : ∀ k, (∀ y0 y1 y2, LeO (split_Shares.j0 k y0 y1 y2) (split_Shares.j0 (k + 1) y0 y1 y2)) ∧ (∀ y0 y1 y2, LeO (split_Shares.l0 k y0 y1 y2) (split_Shares.l0 (k + 1) y0 y1 y2))
  | 0 => ⟨fun _ _ _ r h => by simp [split_Shares.j0] at h, fun _ _ _ r h => by simp [split_Shares.l0] at h⟩
  | k + 1 => by
    obtain ⟨ih0, ih1⟩ := split_Shares.mono_l k; refine ⟨?_, ?_⟩
    · intro y0 y1 y2
      unfold split_Shares.j0
      repeat' first
      | (with_reducible exact ih0 _ _ _)
      | (with_reducible exact ih1 _ _ _)
      | (with_reducible exact split_divide.mono _ _ _ _)
      | (with_reducible exact split_total.mono _ _)
      | (with_reducible exact LeO.refl _)
      | (with_reducible exact LeO.none _)
      | (with_reducible refine LeO.ite ?_ ?_)
      | (with_reducible refine LeO.bind ?_ (fun _ => ?_))
      | exact ih0 _ _ _
      | exact ih1 _ _ _
      | exact split_divide.mono _ _ _ _
      | exact split_total.mono _ _
      | exact LeO.none _
      | refine LeO.ite ?_ ?_
      | refine LeO.bind ?_ (fun _ => ?_)
    · intro y0 y1 y2
      unfold split_Shares.l0
      repeat' first
      | (with_reducible exact ih0 _ _ _)
      | (with_reducible exact ih1 _ _ _)
      | (with_reducible exact split_divide.mono _ _ _ _)
      | (with_reducible exact split_total.mono _ _)
      | (with_reducible exact LeO.refl _)
      | (with_reducible exact LeO.none _)
      | (with_reducible refine LeO.ite ?_ ?_)
      | (with_reducible refine LeO.bind ?_ (fun _ => ?_))
      | exact ih0 _ _ _
      | exact ih1 _ _ _
      | exact split_divide.mono _ _ _ _
      | exact split_total.mono _ _
      | exact LeO.none _
      | refine LeO.ite ?_ ?_
      | refine LeO.bind ?_ (fun _ => ?_)
theorem split_Shares.mono : ∀ a0 a1 k, LeO (split_Shares.f k a0 a1) (split_Shares.f (k + 1) a0 a1) := by
 intro a0 a1 k; obtain ⟨ih0, ih1⟩ := split_Shares.mono_l k
 unfold split_Shares.f
 repeat' first
   | (with_reducible exact ih0 _ _ _)
   | (with_reducible exact ih1 _ _ _)
   | (with_reducible exact split_divide.mono _ _ _ _)
   | (with_reducible exact split_total.mono _ _)
   | (with_reducible exact LeO.refl _)
   | (with_reducible exact LeO.none _)
   | (with_reducible refine LeO.ite ?_ ?_)
   | (with_reducible refine LeO.bind ?_ (fun _ => ?_))
   | exact ih0 _ _ _
   | exact ih1 _ _ _
   | exact split_divide.mono _ _ _ _
   | exact split_total.mono _ _
   | exact LeO.none _
   | refine LeO.ite ?_ ?_
   | refine LeO.bind ?_ (fun _ => ?_)
set_option maxHeartbeats 8000000 in
set_option maxRecDepth 100000 in
theorem split_Shares.calls (k : Nat) (a0 : Int) (A1 : Option Addr) (c1 : Nat) (l1 : List Int) (r1 : List Int) (r2 : Int) (w : World) (hr1 : Kd.C (Kd.int .i64) w A1 l1.length l1) (hc1 : l1.length ≤ c1) (h : split_Shares.f k a0 l1 = some (r1, r2)) :
    Calls Try.prog 38 #[.int .i64 a0, .slice A1 l1.length c1] w fun e w' => ∃ v0_ : Value, e = .returned (.tuple #[v0_, .int .i64 r2]) ∧ Kd.R (Kd.int .i64) 3 w' w.heap.size (fun _ => True) v0_ r1 ∧ Below w.heap.size w w' := by
 have hu3 := Try.underlying3; have HR1 := Aside0.mk hr1; have HC1 := Aside0.mk hc1; clear hr1 hc1; have HB := Aside0.mk (Below.refl w.heap.size w); have H : (if (l1.length : Int) > 200 then (some (([] : List Int), 9)) else (if a0 > 1000000000000000 then (split_Shares.j0 k a0 l1 true) else (split_Shares.j0 k a0 l1 (decide (a0 < (-1000000000000000)))))) = some (r1, r2) := h; clear h
 by_cases c3 : (l1.length : Int) > 200
 ·rw [if_pos c3] at H; have c3b0 : decide (200 < (l1.length : Int)) = true := decide_eq_true c3; have c3b1 : decide (200 < l1.length) = true := decide_eq_true (by omega); clear c3; simp only [Option.some.injEq, Prod.mk.injEq] at H; obtain ⟨rfl, rfl⟩ := H; go_enter Try.func38, Try.ntmps38
  go_wp2
  go_ret2
  exact ⟨_, pbb2_6, pbb8_0, pbb2_2⟩
 ·rw [if_neg c3] at H; have c3b0 : decide (200 < (l1.length : Int)) = false := decide_eq_false c3; have c3b1 : decide (200 < l1.length) = false := decide_eq_false (by omega); clear c3; have HC4 := Aside0.mk H; clear H; go_enter Try.func38, Try.ntmps38
  go_upto_region 3 with (fail)
  go_cut [16] (fun v16 wc => ∃ (kq : Nat) (x16_3 : Bool), v16 = .bool x16_3 ∧ Aside0 (split_Shares.j0 kq a0 l1 x16_3 = some (r1, r2)) ∧ Aside0 (kq ≤ k) ∧ Aside0 (Below w.heap.size w wc))
  case first =>
   have H := HC4.out; clear HC4
   by_cases c5 : a0 > 1000000000000000
   ·rw [if_pos c5] at H; have c5b0 : decide (1000000000000000 < a0) = true := decide_eq_true c5; clear c5; (first | rw [c5b0] | (simp only [i64_w, i32_w]; rw [c5b0]) | skip); have H' := Aside0.mk H; clear H
    go_wp2
    go_meet
    case rel => exact ⟨_, (true), pbb2_0, H', ⟨by first | omega | exact Nat.le_refl _⟩, ⟨pbb2_2⟩⟩
   ·rw [if_neg c5] at H; have c5b0 : decide (1000000000000000 < a0) = false := decide_eq_false c5; clear c5; (first | rw [c5b0] | (simp only [i64_w, i32_w]; rw [c5b0]) | skip); have H' := Aside0.mk H; clear H
    go_wp2
    go_meet
    case rel => exact ⟨_, (decide (a0 < (-1000000000000000))), pbb2_0, H', ⟨by first | omega | exact Nat.le_refl _⟩, ⟨pbb2_2⟩⟩
  case rest =>
   clear HC4; (try clear c1); (try clear p2); (try clear c3); (try clear c3b0); (try clear c3b1); (try clear c5); (try clear c5b0); obtain ⟨kq, x16_3, rfl, HA, HJ3, HB⟩ := hcut
   cases kq with
   | zero => exact absurd HA.out (by simp [split_Shares.j0])
   | succ kj3 =>
    have H := HA.out; clear HA; simp only [split_Shares.j0] at H
    by_cases c6 : x16_3 = true
    ·subst c6; have H1 : (some (([] : List Int), 4)) = some (r1, r2) := by rw [if_pos rfl] at H; exact H
     clear H; have H := H1; clear H1; simp only [Option.some.injEq, Prod.mk.injEq] at H; obtain ⟨rfl, rfl⟩ := H
     go_wp2
     go_ret2
     exact ⟨_, pbb2_6, pbb8_0, pbb2_2⟩
    ·replace c6 := Bool.eq_false_iff.mpr c6; subst c6; have H1 : ((split_total.f kj3 l1).bind fun bt101 => (if bt101.2 = 0 then (if a0 < 0 then ((split_divide.f kj3 (wrap64 (-a0)) bt101.1 l1).bind fun t103 => (split_Shares.l0 kj3 t103 (t103.length : Int) 0)) else ((split_divide.f kj3 a0 bt101.1 l1).bind fun t108 => (some (t108, 0)))) else (some (([] : List Int), bt101.2)))) = some (r1, r2) := by rw [if_neg (show ¬ (false = true) by decide)] at H; exact H
     clear H; have H := H1; clear H1; replace H := Option.bind_eq_some_iff.mp H; obtain ⟨⟨t101, t102⟩, A70, H⟩ := H; replace H : (if t102 = 0 then (if a0 < 0 then ((split_divide.f kj3 (wrap64 (-a0)) t101 l1).bind fun t103 => (split_Shares.l0 kj3 t103 (t103.length : Int) 0)) else ((split_divide.f kj3 a0 t101 l1).bind fun t108 => (some (t108, 0)))) else (some (([] : List Int), t102))) = some (r1, r2) := H; have A7 := Aside0.mk A70; clear A70
     by_cases c8 : t102 = 0
     ·rw [if_pos c8] at H; have c8b0 : (t102 == 0) = true := beq_iff_eq.mpr c8; have c8b1 : (t102 != 0) = false := bne_eq_false_iff_eq.mpr c8; clear c8
      by_cases c9 : a0 < 0
      ·rw [if_pos c9] at H; have c9b0 : decide (a0 < 0) = true := decide_eq_true c9; clear c9; replace H := Option.bind_eq_some_iff.mp H; obtain ⟨t103, A100, H⟩ := H; replace H : (split_Shares.l0 kj3 t103 (t103.length : Int) 0) = some (r1, r2) := H; have A10 := Aside0.mk A100; clear A100; have H' := Aside0.mk H; clear H
       go_wp2_with (first | ((with_reducible refine gate_callee (f := 48) rfl ?_); refine goesL_ (some 19) rfl rfl Try.func48 (by kernel_rfl) rfl #[.slice A1 l1.length c1] rfl pbb3_0 ?_; (with_reducible refine (split_total.calls kj3 _ _ l1 t101 t102 _ ?side1 ?side2 A7.out).mono ?_); (case side1 => repeat (first | exact (Kd.C_below HR1.out HB.out) | (with_reducible refine Kd.C_alloc ?_ _) | (with_reducible refine Kd.C_drewN ?_ _) | (with_reducible refine Kd.C_drew ?_))); (case side2 => exact HC1.out); rintro e w11 ⟨rfl, hb⟩; refine ⟨_, rfl, ?_⟩; have n0_ := Aside0.mk (below_step pbb2_2 hb); clear HB; have HB := n0_; clear n0_; (try clear hb); (try clear hb2); (try clear hk); (try clear hi)) | ((with_reducible refine gate_callee (f := 49) rfl ?_); refine goesL_ (some 31) rfl rfl Try.func49 (by kernel_rfl) rfl #[.int .i64 (wrap64 (-a0)), .int .i64 t101, .slice A1 l1.length c1] rfl pbb3_0 ?_; (with_reducible refine (split_divide.calls kj3 (wrap64 (-a0)) t101 _ _ l1 t103 _ ?side1 ?side2 A10.out).mono ?_); (case side1 => repeat (first | exact (Kd.C_below HR1.out HB.out) | (with_reducible refine Kd.C_alloc ?_ _) | (with_reducible refine Kd.C_drewN ?_ _) | (with_reducible refine Kd.C_drew ?_))); (case side2 => exact HC1.out); rintro e w12 ⟨v104, rfl, ho0, hb⟩; refine ⟨_, rfl, ?_⟩; have n0_ := Aside0.mk (Kd.R_lower ho0 (below_size pbb2_2)); have n1_ := Aside0.mk (below_step pbb2_2 hb); clear HB; have HO105 := n0_; have HB := n1_; clear n0_ n1_; (try clear hb); (try clear hb2); (try clear hk); (try clear hi); (try clear ho0); obtain ⟨Ao13, co13, eo13⟩ := Kd.R_slice HO105.out; subst eo13))
       (try simp only [Act.put, List.setIfInBounds_toArray, List.set_cons_zero, List.set_cons_succ])
       go_loopg [34] kj3 (fun kq v34 w' => ∃ (x4_2 : List Int) (x34_2 : Int), v34 = .int .i64 x34_2 ∧ Aside0 (split_Shares.l0 kq x4_2 (t103.length : Int) x34_2 = some (r1, r2)) ∧ Aside0 (kq ≤ kj3) ∧ Aside0 (Kd.R (Kd.int .i64) 3 w' w.heap.size (fun _ => True) (.slice Ao13 t103.length co13) x4_2) ∧ Aside0 (Below w.heap.size w w'))
       case atStart => exact ⟨(t103), (0), pbb2_0, H', ⟨Nat.le_refl _⟩, ⟨by (with_reducible repeat (first | apply Kd.R_alloc | apply Kd.R_drewN | apply Kd.R_drew)); exact HO105.out⟩, ⟨pbb2_2⟩⟩
       case round =>
        clear H'; (try clear c1); (try clear p2); (try clear c3); (try clear c3b0); (try clear c3b1); (try clear c4); (try clear c5); (try clear c5b0); (try clear c6); (try clear p6); (try clear c8); (try clear c8b0); (try clear c8b1); (try clear c9); (try clear c9b0); (try clear p2); obtain ⟨x4_2, x34_2, rfl, HA, HK2, HO_4, HB⟩ := hrel; have hl4_2 := (Kd.R_reads' HO_4.out).1; rw [hl4_2] at HO_4; (try simp only [hl4_2])
        cases gk with
        | zero => exact absurd HA.out (by simp [split_Shares.l0])
        | succ k2 =>
         have H := HA.out; clear HA; simp only [split_Shares.l0] at H
         by_cases c14 : x34_2 < (t103.length : Int)
         ·rw [if_pos c14] at H; have c14b0 : decide (x34_2 < (t103.length : Int)) = true := decide_eq_true c14; (try (have c14b0hl4_2 := c14b0; simp only [hl4_2] at c14b0hl4_2)); clear c14
          by_cases c15 : 0 ≤ x34_2
          ·rw [if_pos c15] at H; have c15b0 : decide (0 ≤ x34_2) = true := decide_eq_true c15; clear c15
           by_cases c16 : x34_2 < (x4_2.length : Int)
           ·rw [if_pos c16] at H; have c16b0 : decide (x34_2 < (x4_2.length : Int)) = true := decide_eq_true c16; (try (have c16b0hl4_2 := c16b0; simp only [hl4_2] at c16b0hl4_2)); clear c16; obtain ⟨y107, hy107⟩ : ∃ y_ : List Int, y_ = (x4_2.set (x34_2 : Int).toNat (wrap64 (-(rd x4_2 x34_2)))) := ⟨_, rfl⟩; replace H : (split_Shares.l0 k2 y107 (t103.length : Int) (wrap64 (x34_2 + 1))) = some (r1, r2) := by first | (rw [hy107]; with_reducible exact H) | (have H2_ := (Option.bind_some _ _).symm.trans H; rw [hy107]; with_reducible exact H2_) | (have H2_ := (Option.bind_some _ _).symm.trans H; with_reducible exact H2_) | with_reducible exact H | (rw [hy107]; exact H) | exact H
            have Ny107 := Aside0.mk hy107; clear hy107; have H' := Aside0.mk H; clear H; have p106 : 0 ≤ (x34_2 : Int) := of_decide_eq_true pbb4_0; have q106 : x34_2 < (x4_2.length : Int) := of_decide_eq_true pbb4_0; obtain ⟨ad106, e106, hx106_0⟩ := Kd.at_int (Kd.R_reads' HO_4.out).2.2 x34_2 p106 q106
            cases e106
            replace p106 := eq_true p106; replace q106 := eq_true q106; have p17 : 0 ≤ (x34_2 : Int) := of_decide_eq_true pbb4_0; have q17 : (x34_2 : Int) < ((x4_2.length : Int) : Int) := of_decide_eq_true pbb4_0; obtain ⟨go17, co17, eo17, gb17, gl17, cl17, HG17⟩ := Kd.R_form HO_4.out (by omega); (first | cases eo17 | (injection eo17 with ea_ en_ ec_; (first | subst ea_ | (injection ea_ with ea_; subst ea_)); subst ec_; clear en_)); have GB17 := Aside0.mk gb17; have GG17 := Aside0.mk HG17; clear gb17 gl17 HG17; (first | simp only [add_plain] at hx106_0 | skip); obtain ⟨hx17_0, hf17_0⟩ := Kd.R_celln 0 HO_4.out (x34_2 : Int) p17 q17; replace p17 := eq_true p17; replace q17 := eq_true q17; have HP18 := Kd.R_putg HO_4.out (x34_2 : Int) (wrap64 (-(rd x4_2 x34_2)))
            go_wp2_with (first | ((with_reducible refine gate_store (t := 3) (p := 44) rfl ?_); refine store_event (t := 3) (p := 44) (v := ?vo_w19) (w1 := (wr.setCell ⟨go17, (x34_2 : Int).toNat, none⟩ (.int .i64 (wrap64 (-(rd x4_2 x34_2)))))) ?hg ?ho ?hn ?hr ?_; (case ho => rfl); (case hg => rfl); (case hn => rfl); (case hr => first | (go_simp; done) | (go_simp; rfl)); intro w19 hw; have hg : wr.grownBy w19 (some go17) := (by rw [hw]; exact HP18.2); have hp_ : Kd.R (Kd.int .i64) 3 w19 w.heap.size (fun _ => True) (.slice (some ⟨go17, 0, none⟩) x4_2.length co13) y107 := (by rw [hw, Ny107.out]; exact HP18.1); clear HP18; have n0_ := Aside0.mk (hp_); have n1_ := Aside0.mk ((by rw [hw]; exact below_set (HB.out) GB17.out : Below w.heap.size w w19)); clear HO_4; clear HB; have HO_4 := n0_; have HB := n1_; clear n0_ n1_; clear hg hw hp_))
            (try simp only [← hl4_2])
            go_roundg k2
            case measure => have := HJ3.out; have := HK2.out; omega
            case rel => exact ⟨(y107), (wrap64 (x34_2 + 1)), pbb2_0, H', ⟨by have := HJ3.out; have := HK2.out; omega⟩, ⟨by (try simp only [hl4_2]); (with_reducible repeat (first | apply Kd.R_alloc | apply Kd.R_drewN | apply Kd.R_drew)); exact HO_4.out⟩, ⟨pbb2_2⟩⟩
           ·rw [if_neg c16] at H; exact absurd H (by simp)
          ·rw [if_neg c15] at H; exact absurd H (by simp)
         ·rw [if_neg c14] at H; have c14b0 : decide (x34_2 < (t103.length : Int)) = false := decide_eq_false c14; (try (have c14b0hl4_2 := c14b0; simp only [hl4_2] at c14b0hl4_2)); clear c14; simp only [Option.some.injEq, Prod.mk.injEq] at H; obtain ⟨rfl, rfl⟩ := H
          go_wp2
          go_ret2
          exact ⟨_, pbb2_6, by (with_reducible repeat (first | apply Kd.R_alloc | apply Kd.R_drewN | apply Kd.R_drew)); exact HO_4.out, pbb2_2⟩
      ·rw [if_neg c9] at H; have c9b0 : decide (a0 < 0) = false := decide_eq_false c9; clear c9; replace H := Option.bind_eq_some_iff.mp H; obtain ⟨t108, A200, H⟩ := H; replace H : (some (t108, 0)) = some (r1, r2) := H; have A20 := Aside0.mk A200; clear A200; simp only [Option.some.injEq, Prod.mk.injEq] at H; obtain ⟨rfl, rfl⟩ := H
       go_wp2_with (first | ((with_reducible refine gate_callee (f := 48) rfl ?_); refine goesL_ (some 19) rfl rfl Try.func48 (by kernel_rfl) rfl #[.slice A1 l1.length c1] rfl pbb3_0 ?_; (with_reducible refine (split_total.calls kj3 _ _ l1 t101 t102 _ ?side1 ?side2 A7.out).mono ?_); (case side1 => repeat (first | exact (Kd.C_below HR1.out HB.out) | (with_reducible refine Kd.C_alloc ?_ _) | (with_reducible refine Kd.C_drewN ?_ _) | (with_reducible refine Kd.C_drew ?_))); (case side2 => exact HC1.out); rintro e w21 ⟨rfl, hb⟩; refine ⟨_, rfl, ?_⟩; have n0_ := Aside0.mk (below_step pbb2_2 hb); clear HB; have HB := n0_; clear n0_; (try clear hb); (try clear hb2); (try clear hk); (try clear hi)) | ((with_reducible refine gate_callee (f := 49) rfl ?_); refine goesL_ (some 50) rfl rfl Try.func49 (by kernel_rfl) rfl #[.int .i64 a0, .int .i64 t101, .slice A1 l1.length c1] rfl pbb3_0 ?_; (with_reducible refine (split_divide.calls kj3 a0 t101 _ _ l1 t108 _ ?side1 ?side2 A20.out).mono ?_); (case side1 => repeat (first | exact (Kd.C_below HR1.out HB.out) | (with_reducible refine Kd.C_alloc ?_ _) | (with_reducible refine Kd.C_drewN ?_ _) | (with_reducible refine Kd.C_drew ?_))); (case side2 => exact HC1.out); rintro e w22 ⟨v109, rfl, ho0, hb⟩; refine ⟨_, rfl, ?_⟩; have n0_ := Aside0.mk (Kd.R_lower ho0 (below_size pbb2_2)); have n1_ := Aside0.mk (below_step pbb2_2 hb); clear HB; have HO110 := n0_; have HB := n1_; clear n0_ n1_; (try clear hb); (try clear hb2); (try clear hk); (try clear hi); (try clear ho0)))
       go_ret2
       exact ⟨_, pbb2_6, by (with_reducible repeat (first | apply Kd.R_alloc | apply Kd.R_drewN | apply Kd.R_drew)); exact HO110.out, pbb2_2⟩
     ·rw [if_neg c8] at H; have c8b0 : (t102 == 0) = false := beq_eq_false_iff_ne.mpr c8; have c8b1 : (t102 != 0) = true := bne_iff_ne.mpr c8; simp only [Option.some.injEq, Prod.mk.injEq] at H; obtain ⟨rfl, rfl⟩ := H
      go_wp2_with (first | ((with_reducible refine gate_callee (f := 48) rfl ?_); refine goesL_ (some 19) rfl rfl Try.func48 (by kernel_rfl) rfl #[.slice A1 l1.length c1] rfl pbb3_0 ?_; (with_reducible refine (split_total.calls kj3 _ _ l1 t101 t102 _ ?side1 ?side2 A7.out).mono ?_); (case side1 => repeat (first | exact (Kd.C_below HR1.out HB.out) | (with_reducible refine Kd.C_alloc ?_ _) | (with_reducible refine Kd.C_drewN ?_ _) | (with_reducible refine Kd.C_drew ?_))); (case side2 => exact HC1.out); rintro e w23 ⟨rfl, hb⟩; refine ⟨_, rfl, ?_⟩; have n0_ := Aside0.mk (below_step pbb2_2 hb); clear HB; have HB := n0_; clear n0_; (try clear hb); (try clear hb2); (try clear hk); (try clear hi)))
      go_ret2
      exact ⟨_, pbb2_6, pbb8_0, pbb2_2⟩
end Go.Proofs.Ytadognlkefhoiaa.M
end
section
namespace Go.Proofs.Ytadognlkefhoiaa.M
open Go.RowKit Go.Proofs.YtadognlkefhoiaaW.PrintWords Dv
set_option linter.unusedVariables false
def shErr (a : Int) (l : List Int) : Int :=
  if l.length > 200 then 9 else if a > 1000000000000000 ∨ a < -1000000000000000 then 4 else if ∃ x ∈ l, x < 0 then 2 else if l.sum > 1000000000000000 then 4 else if l.sum = 0 then 2 else 0
theorem sum_nonneg : ∀ l : List Int, (∀ x ∈ l, 0 ≤ x) → 0 ≤ l.sum
  | [], _ => by simp
  | x :: l, h => by
    have h1 := h x (by simp); have h2 := sum_nonneg l (fun y hy => h y (by simp [hy])); simp only [List.sum_cons]; omega
theorem slices_IndexFunc_int_int__split_total_1.go : ∀ (B A : List Int) (i n : Int), i = (A.length : Int) → n = (A.length : Int) + B.length → n < 1000000 → ∃ v, Ev (fun k => slices_IndexFunc_int_int__split_total_1.l0 k (A ++ B) n i) v ∧ ((0 ≤ v) ↔ ∃ x ∈ B, x < 0)
  | [], A, i, n, hi, hn, hs => by
    refine ⟨-1, Ev.succ ?_, by simp⟩; have g : ¬ i < n := by simp at hn; omega
    simp only [slices_IndexFunc_int_int__split_total_1.l0, if_neg g]; exact Ev.const _
  | x :: B, A, i, n, hi, hn, hs => by
    simp only [List.length_cons] at hn; have g : i < n := by omega
    have g1 : 0 ≤ i := by omega
    have g2 : i < ((A ++ x :: B).length : Int) := by simp; omega
    have r := rd_at A x B i hi; have e : wrap64 (i + 1) = i + 1 := w64 (by omega) (by omega)
    by_cases hx : x < 0
    · refine ⟨i, Ev.succ ?_, by simp [hx, g1]⟩; simp only [slices_IndexFunc_int_int__split_total_1.l0, if_pos g, if_pos g1, if_pos g2, r, split_total_1.f, Option.bind_some, decide_eq_true hx, if_true]; exact Ev.const _
    · obtain ⟨v, h1, h2⟩ := slices_IndexFunc_int_int__split_total_1.go B (A ++ [x]) (i + 1) n (by simp; omega) (by simp; omega) hs; refine ⟨v, Ev.succ ?_, by rw [h2]; simp [hx]⟩; simp only [slices_IndexFunc_int_int__split_total_1.l0, if_pos g, if_pos g1, if_pos g2, r, split_total_1.f, Option.bind_some, decide_eq_false hx, Bool.false_eq_true, if_false, e]
      simpa using h1
theorem slices_ContainsFunc_int_int__split_total_1.eq (l : List Int) (h : l.length < 1000000) : Ev (fun k => slices_ContainsFunc_int_int__split_total_1.f k l) (decide (∃ x ∈ l, x < 0)) := by
  obtain ⟨v, h1, h2⟩ := slices_IndexFunc_int_int__split_total_1.go l [] 0 l.length rfl (by simp) (by omega)
  unfold slices_ContainsFunc_int_int__split_total_1.f slices_IndexFunc_int_int__split_total_1.f
  refine Ev.bind (by simpa using h1) ?_
  have : (decide (v ≥ 0)) = decide (∃ x ∈ l, x < 0) := by
    by_cases hx : ∃ x ∈ l, x < 0
    · rw [decide_eq_true hx, decide_eq_true (h2.2 hx)]
    · rw [decide_eq_false hx, decide_eq_false (fun k => hx (h2.1 k))]
  rw [this]; exact Ev.const _
def sumFrom (s : Int) (B : List Int) : Int × Int := if s + B.sum > 1000000000000000 then (0, 4) else if s + B.sum = 0 then (0, 2) else (s + B.sum, 0)
theorem split_total.go : ∀ (B A : List Int) (s i n : Int), i = (A.length : Int) → n = (A.length : Int) + B.length → n < 1000000 → 0 ≤ s → s ≤ 1000000000000000 → (∀ x ∈ B, 0 ≤ x ∧ x ≤ 9223372036854775807) → Ev (fun k => split_total.l0 k s (A ++ B) n i) (sumFrom s B)
  | [], A, s, i, n, hi, hn, hs, h0, h1, hB => by
    refine Ev.succ ?_; have g : ¬ i < n := by simp at hn; omega
    simp only [split_total.l0, if_neg g, sumFrom, List.sum_nil, Int.add_zero, if_neg (show ¬ s > 1000000000000000 by omega)]
    split
    · exact Ev.const _
    · exact Ev.const _
  | x :: B, A, s, i, n, hi, hn, hs, h0, h1, hB => by
    simp only [List.length_cons] at hn; have g : i < n := by omega
    have g1 : 0 ≤ i := by omega
    have g2 : i < ((A ++ x :: B).length : Int) := by simp; omega
    have r := rd_at A x B i hi; have e : wrap64 (i + 1) = i + 1 := w64 (by omega) (by omega); have hx := hB x (by simp); have e2 : wrap64 (1000000000000000 - s) = 1000000000000000 - s := w64 (by omega) (by omega); have hBs := sum_nonneg B (fun y hy => (hB y (by simp [hy])).1); refine Ev.succ ?_
    by_cases hc : x > 1000000000000000 - s
    · simp only [split_total.l0, if_pos g, if_pos g1, if_pos g2, r, e2, if_pos hc]; have : sumFrom s (x :: B) = (0, 4) := by unfold sumFrom; rw [List.sum_cons, if_pos (by omega)]
      rw [this]; exact Ev.const _
    · have e3 : wrap64 (s + x) = s + x := w64 (by omega) (by omega); simp only [split_total.l0, if_pos g, if_pos g1, if_pos g2, r, e2, if_neg hc, e, e3]; have ih := split_total.go B (A ++ [x]) (s + x) (i + 1) n (by simp; omega) (by simp; omega) hs (by omega) (by omega) (fun y hy => hB y (by simp [hy])); have : sumFrom s (x :: B) = sumFrom (s + x) B := by unfold sumFrom; rw [List.sum_cons, Int.add_assoc]
      rw [this]; simpa using ih
theorem sumFrom_zero (l : List Int) : sumFrom 0 l = if l.sum > 1000000000000000 then (0, 4) else if l.sum = 0 then (0, 2) else (l.sum, 0) := by simp [sumFrom]
theorem split_total.eq (l : List Int) (hl : l.length < 1000000) (hw : ∀ x ∈ l, x ≤ 9223372036854775807) : Ev (fun k => split_total.f k l) (if ∃ x ∈ l, x < 0 then (0, 2) else sumFrom 0 l) := by
  unfold split_total.f
  refine Ev.bind (slices_ContainsFunc_int_int__split_total_1.eq l hl) ?_
  by_cases h : ∃ x ∈ l, x < 0
  · simp only [decide_eq_true h, if_true, if_pos h]; exact Ev.const _
  · simp only [decide_eq_false h, Bool.false_eq_true, if_false, if_neg h]
    have := split_total.go l [] 0 0 l.length rfl (by simp) (by omega) (by omega) (by omega) (fun x hx => ⟨by
      have : ¬ x < 0 := fun k => h ⟨x, hx, k⟩
      omega, hw x hx⟩)
    simpa using this
def rOrd (r : List Int) (i k : Int) : Prop := rd r i > rd r k ∨ (rd r i = rd r k ∧ i < k)
theorem rOrd.tot (r : List Int) : Tot (rOrd r) where
  trans x y z h k := by unfold rOrd at *; omega
  tot x y h := by unfold rOrd; omega
  irr x h := by unfold rOrd at h; omega
def idx (n : Nat) : List Int := (List.range n).map fun (i : Nat) => (i : Int)
theorem idx_length (n : Nat) : (idx n).length = n := by simp [idx]
theorem idx_succ (n : Nat) : idx (n + 1) = idx n ++ [(n : Int)] := by simp [idx, List.range_succ]
theorem mem_idx (n : Nat) (i : Int) : i ∈ idx n ↔ 0 ≤ i ∧ i < n := by
  simp only [idx, List.mem_map, List.mem_range]
  constructor
  · rintro ⟨j, h, rfl⟩; omega
  · intro h; exact ⟨i.toNat, by omega, by omega⟩
theorem idx_lt (n : Nat) : (idx n).Pairwise (· < ·) := by
  unfold idx
  rw [List.pairwise_map]; exact List.pairwise_lt_range.imp (fun h => by omega)
theorem rk_ex (r : List Int) (h : r.length < 1000) : ∃ Z, Z.Perm (idx r.length) ∧ Z.Pairwise (rOrd r) ∧ Ev (fun k => slices_stableCmpFunc_int__split_ranked_1.f k (idx r.length) r.length r) Z := by
  refine slices_stableCmpFunc_int__split_ranked_1.f_sort r (rOrd r) (rOrd.tot r) (idx r.length) ?_ r.length (by rw [idx_length]) (by rw [idx_length]; omega); refine (List.Pairwise.and_mem.1 (idx_lt r.length)).imp ?_; rintro x y ⟨hx, hy, hxy⟩; rw [mem_idx] at hx hy; refine ⟨by omega, ?_⟩
  unfold split_ranked_1.f
  simp only [if_pos hx.1, if_pos hx.2, if_pos hy.1, if_pos hy.2]
  by_cases c1 : rd r y > rd r x
  · exact ⟨-1, by rw [if_pos c1], by unfold rOrd; constructor <;> intro <;> omega⟩
  · by_cases c2 : rd r y < rd r x
    · exact ⟨1, by rw [if_neg c1, if_pos c2], by unfold rOrd; constructor <;> intro <;> omega⟩
    · exact ⟨0, by rw [if_neg c1, if_neg c2], by unfold rOrd; constructor <;> intro <;> omega⟩
open Classical in
noncomputable def rk (r : List Int) : List Int := if h : ∃ Z : List Int, Z.Perm (idx r.length) ∧ Z.Pairwise (rOrd r) then h.choose else []
theorem rk_spec (r : List Int) (h : r.length < 1000) : (rk r).Perm (idx r.length) ∧ (rk r).Pairwise (rOrd r) := by
  obtain ⟨Z, z1, z2, _⟩ := rk_ex r h; have e : ∃ Z : List Int, Z.Perm (idx r.length) ∧ Z.Pairwise (rOrd r) := ⟨Z, z1, z2⟩
  unfold rk
  rw [dif_pos e]; exact e.choose_spec
theorem rk_uniq (r Z : List Int) (h : r.length < 1000) (h1 : Z.Perm (idx r.length)) (h2 : Z.Pairwise (rOrd r)) : Z = rk r := by
  obtain ⟨r1, r2⟩ := rk_spec r h; exact List.Perm.eq_of_pairwise (le := rOrd r) (fun a b _ _ k1 k2 => absurd k2 ((rOrd.tot r).asym k1)) h2 r2 (h1.trans r1.symm)
theorem split_ranked.fill (r : List Int) (N : Nat) (Z : List Int) (hN : N < 1000) (hZ : Ev (fun k => slices_stableCmpFunc_int__split_ranked_1.f k (idx N) N r) Z) : ∀ (d i : Nat), i + d = N → Ev (fun k => split_ranked.l0 k (idx i ++ List.replicate d 0) N i r) Z
  | 0, i, h => by
    obtain rfl : i = N := by omega
    refine Ev.succ ?_; have g : ¬ (i : Int) < i := by omega
    have hl : (idx i ++ List.replicate 0 (0 : Int)).length = i := by simp [idx_length]
    have g1 : (0 : Int) ≤ ((idx i ++ List.replicate 0 (0 : Int)).length : Int) := by omega
    have g2 : ((idx i ++ List.replicate 0 (0 : Int)).length : Int).toNat ≤ 35184372088832 := by omega
    simp only [split_ranked.l0, if_neg g, if_pos g1, if_pos g2, pw_copy_24.f, Option.bind_some]
    have e : (idx i ++ List.replicate 0 (0 : Int)).take (List.replicate ((idx i ++ List.replicate 0 (0 : Int)).length : Int).toNat (0 : Int)).length ++ (List.replicate ((idx i ++ List.replicate 0 (0 : Int)).length : Int).toNat (0 : Int)).drop (idx i ++ List.replicate 0 (0 : Int)).length = idx i := by
      simp [idx_length]
      exact List.take_of_length_le (by rw [idx_length]; omega)
    rw [e]; refine Ev.bind (a := Z) ?_ (Ev.const _)
    unfold slices_SortStableFunc_int_int__split_ranked_1.f
    rw [idx_length]; exact Ev.bind hZ (Ev.const _)
  | d + 1, i, h => by
    have hl : (idx i ++ List.replicate (d + 1) (0 : Int)).length = N := by simp [idx_length]; omega
    have g : (i : Int) < N := by omega
    have g1 : (0 : Int) ≤ i := by omega
    have g2 : (i : Int) < ((idx i ++ List.replicate (d + 1) (0 : Int)).length : Int) := by omega
    have e : wrap64 ((i : Int) + 1) = ((i + 1 : Nat) : Int) := by rw [w64 (by omega) (by omega)]; omega
    refine Ev.succ ?_; simp only [split_ranked.l0, if_pos g, if_pos g1, if_pos g2, e]
    have s1 : (idx i ++ List.replicate (d + 1) (0 : Int)).set (i : Int).toNat i = idx (i + 1) ++ List.replicate d 0 := by
      rw [List.replicate_succ, set_at _ _ _ _ _ (by rw [idx_length]), idx_succ]; simp
    rw [s1]; exact split_ranked.fill r N Z hN hZ d (i + 1) (by omega)
theorem split_ranked.eq (r : List Int) (h : r.length < 1000) : Ev (fun k => split_ranked.f k r) (rk r) := by
  obtain ⟨Z, z1, z2, z3⟩ := rk_ex r h; rw [← rk_uniq r Z h z1 z2]; have g1 : (0 : Int) ≤ (r.length : Int) := by omega
  have g2 : (r.length : Int).toNat ≤ 35184372088832 := by omega
  simp only [split_ranked.f, if_pos g1, if_pos g2, Option.bind_some]; have := split_ranked.fill r r.length Z h z3 r.length 0 (by omega)
  simpa [idx] using this
def inc (x Y : List Int) : List Int := Y.foldl (fun x y => x.set y.toNat (rd x y + 1)) x
theorem inc_cons (x : List Int) (y : Int) (Y : List Int) : inc x (y :: Y) = inc (x.set y.toNat (rd x y + 1)) Y := rfl
theorem inc_length : ∀ (Y x : List Int), (inc x Y).length = x.length
  | [], x => rfl
  | y :: Y, x => by rw [inc_cons, inc_length Y]; simp
theorem rd_set (x : List Int) (i j v : Int) (hi : 0 ≤ i) (hi2 : i < x.length) (hj : 0 ≤ j) : rd (x.set i.toNat v) j = if j = i then v else rd x j := by
  unfold rd
  rw [List.getD_eq_getElem?_getD, List.getElem?_set]
  by_cases h : j = i
  · subst h; rw [if_pos rfl, if_pos (by omega), if_pos rfl]; rfl
  · rw [if_neg (by omega), if_neg h, List.getD_eq_getElem?_getD]
theorem rd_inc : ∀ (Y x : List Int) (i : Int), Y.Nodup → (∀ y ∈ Y, 0 ≤ y ∧ y < x.length) → 0 ≤ i → rd (inc x Y) i = rd x i + if i ∈ Y then 1 else 0
  | [], x, i, _, _, _ => by simp [inc]
  | y :: Y, x, i, hn, hy, hi => by
    obtain ⟨n1, n2⟩ := List.nodup_cons.1 hn; have h0 := hy y (by simp); rw [inc_cons, rd_inc Y _ i n2 (fun z hz => by rw [List.length_set]; exact hy z (by simp [hz])) hi, rd_set x y i _ h0.1 h0.2 hi]
    by_cases h : i = y
    · subst h; simp [n1]
    · simp [h]
theorem rd_mem' (x : List Int) (i : Int) (h0 : 0 ≤ i) (h1 : i < x.length) : rd x i ∈ x := by
  have := rd_mem [] x [] i (by simpa using h0) (by simpa using h1)
  simpa using this
theorem mem_set' {x : List Int} {n : Nat} {v w : Int} (h : w ∈ x.set n v) : w = v ∨ w ∈ x := by
  rcases List.mem_or_eq_of_mem_set h with h | h
  · exact .inr h
  · exact .inl h
theorem split_divide.go1 : ∀ (Y2 Y1 x : List Int) (n i : Int), i = (Y1.length : Int) → n = (Y1.length : Int) + Y2.length → n < 1000000 → (∀ y ∈ Y2, 0 ≤ y ∧ y < x.length) → (∀ v ∈ x, 0 ≤ v ∧ v + Y2.length ≤ 9000000000000000000) → Ev (fun k => split_divide.l1 k x (Y1 ++ Y2) n i) (inc x Y2)
  | [], Y1, x, n, i, hi, hn, hs, hy, hv => by
    refine Ev.succ ?_; have g : ¬ i < n := by simp at hn; omega
    simp only [split_divide.l1, if_neg g]; exact Ev.const _
  | y :: Y2, Y1, x, n, i, hi, hn, hs, hy, hv => by
    simp only [List.length_cons] at hn hv; have h0 := hy y (by simp); have g : i < n := by omega
    have g1 : 0 ≤ i := by omega
    have g2 : i < ((Y1 ++ y :: Y2).length : Int) := by simp; omega
    have r := rd_at Y1 y Y2 i hi; have hm := hv _ (rd_mem' x y h0.1 h0.2); have e : wrap64 (i + 1) = i + 1 := w64 (by omega) (by omega); have e2 : wrap64 (rd x y + 1) = rd x y + 1 := w64 (by omega) (by omega); refine Ev.succ ?_; simp only [split_divide.l1, if_pos g, if_pos g1, if_pos g2, r, if_pos h0.1, if_pos h0.2, e, e2]
    have ih := split_divide.go1 Y2 (Y1 ++ [y]) (x.set y.toNat (rd x y + 1)) n (i + 1) (by simp; omega) (by simp; omega) hs (fun z hz => by rw [List.length_set]; exact hy z (by simp [hz])) (fun v hvm => by
      rcases mem_set' hvm with rfl | h
      · omega
      · have := hv v h; omega)
    rw [inc_cons]
    simpa using ih
def qs (s t : Int) (l : List Int) : List Int := l.map fun w => s * w / t
def rs (s t : Int) (l : List Int) : List Int := l.map fun w => s * w % t
theorem mdv_down {s w t : Int} (h0 : 0 ≤ s) (h1 : s ≤ 1000000000000000) (h2 : 0 ≤ w) (h3 : w ≤ t) (h4 : 0 < t) : mdv s w t 1 = (s * w / t, 0) ∧ 0 ≤ s * w / t ∧ s * w / t ≤ s := by
  have hp : 0 ≤ s * w := Int.mul_nonneg h0 h2; have q0 : 0 ≤ s * w / t := Int.ediv_nonneg hp (by omega)
  have q1 : s * w / t ≤ s := by
    have : s * w ≤ s * t := Int.mul_le_mul_of_nonneg_left h3 h0; have h5 := Int.ediv_le_ediv h4 this
    rwa [Int.mul_ediv_cancel _ (by omega)] at h5
  refine ⟨?_, q0, q1⟩
  unfold mdv
  rw [if_neg (by omega), if_neg (by omega)]
  have n : negv s w t = false := by
    unfold negv
    rw [decide_eq_false (show ¬ s < 0 by omega), decide_eq_false (show ¬ w < 0 by omega), decide_eq_false (show ¬ t < 0 by omega)]
    simp
  have z : sizev s w t 1 = s * w / t := by
    unfold sizev awayv ab
    rw [if_neg (show ¬ s < 0 by omega), if_neg (show ¬ w < 0 by omega), if_neg (show ¬ t < 0 by omega), n]
    simp
  rw [n, z]
  unfold signv
  rw [if_neg (by simp), if_neg (by omega)]
theorem modv_down {s w t : Int} (h4 : 0 < t) : modv s w t = (s * w % t, 0) := by
  unfold modv ab
  rw [if_neg (by omega), if_neg (by omega)]
def lf (s t : Int) (l : List Int) : Int := s - (qs s t l).sum
theorem sum_qr (s t : Int) (ht : 0 < t) : ∀ l : List Int, t * (qs s t l).sum + (rs s t l).sum = s * l.sum
  | [] => by simp [qs, rs]
  | w :: l => by
    have ih := sum_qr s t ht l; have h := Int.emod_add_mul_ediv (s * w) t; simp only [qs, rs, List.map_cons, List.sum_cons, Int.mul_add] at *
    omega
theorem rs_bounds (s t : Int) (ht : 0 < t) (l : List Int) : ∀ x ∈ rs s t l, 0 ≤ x ∧ x < t := by
  intro x hx; obtain ⟨w, _, rfl⟩ := List.mem_map.1 hx; exact ⟨Int.emod_nonneg _ (by omega), Int.emod_lt_of_pos _ ht⟩
theorem sum_rs (t : Int) : ∀ l : List Int, (∀ x ∈ l, 0 ≤ x ∧ x < t) → 0 ≤ l.sum ∧ l.sum ≤ t * l.length
  | [], _ => by simp
  | x :: l, h => by
    have ih := sum_rs t l (fun y hy => h y (by simp [hy])); have hx := h x (by simp); simp only [List.sum_cons, List.length_cons]; have : t * ((l.length + 1 : Nat) : Int) = t * l.length + t := by rw [Int.natCast_add, Int.mul_add]; simp
    omega
theorem lf_bounds (s : Int) (l : List Int) (ht : 0 < l.sum) : 0 ≤ lf s l.sum l ∧ lf s l.sum l ≤ l.length ∧ l.sum * lf s l.sum l = (rs s l.sum l).sum := by
  have h := sum_qr s l.sum ht l; have hr := sum_rs l.sum (rs s l.sum l) (rs_bounds s l.sum ht l); have hl : (rs s l.sum l).length = l.length := by simp [rs]
  rw [hl] at hr
  have e : l.sum * lf s l.sum l = (rs s l.sum l).sum := by
    unfold lf
    rw [Int.mul_sub, Int.mul_comm l.sum s]; omega
  refine ⟨?_, ?_, e⟩
  · have : 0 ≤ l.sum * lf s l.sum l := by omega
    exact Int.nonneg_of_mul_nonneg_right this ht
  · have : l.sum * lf s l.sum l ≤ l.sum * l.length := by omega
    exact Int.le_of_mul_le_mul_left this ht
theorem qs_snoc (s t : Int) (l : List Int) (w : Int) : qs s t (l ++ [w]) = qs s t l ++ [s * w / t] := by simp [qs]
theorem rs_snoc (s t : Int) (l : List Int) (w : Int) : rs s t (l ++ [w]) = rs s t l ++ [s * w % t] := by simp [rs]
theorem qs_bounds {s t : Int} (h0 : 0 ≤ s) (h1 : s ≤ 1000000000000000) (h4 : 0 < t) (l : List Int) (hl : ∀ w ∈ l, 0 ≤ w ∧ w ≤ t) : ∀ x ∈ qs s t l, 0 ≤ x ∧ x ≤ 1000000000000000 := by
  intro x hx; obtain ⟨w, hw, rfl⟩ := List.mem_map.1 hx; have := mdv_down h0 h1 (hl w hw).1 (hl w hw).2 h4
  omega
noncomputable def pos (s : Int) (l : List Int) : List Int := inc (qs s l.sum l) ((rk (rs s l.sum l)).take (lf s l.sum l).toNat)
theorem split_divide.go0 (s t : Int) (h0 : 0 ≤ s) (h1 : s ≤ 1000000000000000) (h4 : 0 < t) (ht : t ≤ 1000000000000000) (X : List Int) : ∀ (W2 W1 : List Int) (n i left : Int), i = (W1.length : Int) → n = (W1.length : Int) + W2.length → n ≤ 1000 → (∀ w ∈ W2, 0 ≤ w ∧ w ≤ t) → left ≤ 1000000000000000 → -1000000000000000 * i ≤ left →
    Ev (fun k => (split_ranked.f k (rs s t (W1 ++ W2))).bind fun t114 => (if 0 ≤ left - (qs s t W2).sum then (if left - (qs s t W2).sum ≤ (t114.length : Int) then ((some (t114.take (left - (qs s t W2).sum).toNat : List Int)).bind fun y117 => (split_divide.l1 k (qs s t (W1 ++ W2)) y117 (y117.length : Int) 0)) else (none)) else (none))) X →
    Ev (fun k => split_divide.l0 k s t (qs s t W1 ++ List.replicate W2.length 0) (rs s t W1 ++ List.replicate W2.length 0) left (W1 ++ W2) n i) X
  | [], W1, n, i, left, hi, hn, hs, hw, l1, l2, hX => by
    refine Ev.succ ?_; have g : ¬ i < n := by simp at hn; omega
    simp only [split_divide.l0, if_neg g]
    simpa [qs, rs] using hX
  | w :: W2, W1, n, i, left, hi, hn, hs, hw, l1, l2, hX => by
    simp only [List.length_cons] at hn; have hw0 := hw w (by simp); have g : i < n := by omega
    have g1 : 0 ≤ i := by omega
    have g2 : i < ((W1 ++ w :: W2).length : Int) := by simp; omega
    have r := rd_at W1 w W2 i hi; obtain ⟨m1, m2, m3⟩ := mdv_down h0 h1 hw0.1 hw0.2 h4; have M := muldiv_MulDiv.eq (a := s) (b := w) (c := t) 1 (by unfold inI; omega) (by unfold inI; omega) (by unfold inI; omega); have D := muldiv_Mod.eq (a := s) (b := w) (c := t) (by unfold inI; omega) (by unfold inI; omega) (by unfold inI; omega); rw [m1] at M; rw [modv_down h4] at D; have e : wrap64 (i + 1) = i + 1 := w64 (by omega) (by omega); have e2 : wrap64 (left - s * w / t) = left - s * w / t := w64 (by omega) (by omega); have lq : (qs s t W1).length = W1.length := by simp [qs]
    have lr : (rs s t W1).length = W1.length := by simp [rs]
    have g3 : i < ((qs s t W1 ++ List.replicate (w :: W2).length (0 : Int)).length : Int) := by simp [lq]; omega
    have g4 : i < ((rs s t W1 ++ List.replicate (w :: W2).length (0 : Int)).length : Int) := by simp [lr]; omega
    refine Ev.succ ?_; simp only [split_divide.l0, if_pos g, if_pos g1, if_pos g2, r]; refine Ev.bind M ?_; simp only [D, Option.bind_some, if_pos g3, if_pos g4, e, e2]
    have s1 : (qs s t W1 ++ List.replicate (w :: W2).length (0 : Int)).set i.toNat (s * w / t) = qs s t (W1 ++ [w]) ++ List.replicate W2.length 0 := by
      rw [List.length_cons, List.replicate_succ, set_at _ _ _ _ _ (by rw [lq]; exact hi), qs_snoc]; simp
    have s2 : (rs s t W1 ++ List.replicate (w :: W2).length (0 : Int)).set i.toNat (s * w % t) = rs s t (W1 ++ [w]) ++ List.replicate W2.length 0 := by
      rw [List.length_cons, List.replicate_succ, set_at _ _ _ _ _ (by rw [lr]; exact hi), rs_snoc]; simp
    rw [s1, s2]
    have ih := split_divide.go0 s t h0 h1 h4 ht X W2 (W1 ++ [w]) n (i + 1) (left - s * w / t) (by simp; omega) (by simp; omega) hs (fun z hz => hw z (by simp [hz])) (by omega) (by omega) (by
      have e5 : (qs s t (w :: W2)).sum = s * w / t + (qs s t W2).sum := by simp [qs]
      have e6 : left - s * w / t - (qs s t W2).sum = left - (qs s t (w :: W2)).sum := by omega
      rw [e6]
      simpa using hX)
    simpa using ih
theorem le_sum {l : List Int} (h : ∀ x ∈ l, 0 ≤ x) : ∀ x ∈ l, x ≤ l.sum := by
  induction l with
  | nil => intro x hx; simp at hx
  | cons y l ih =>
    intro x hx; have h1 := sum_nonneg l (fun z hz => h z (by simp [hz])); have h2 := h y (by simp); rw [List.sum_cons]
    rcases List.mem_cons.1 hx with rfl | hx
    · omega
    · have := ih (fun z hz => h z (by simp [hz])) x hx
      omega
structure Fit (s : Int) (l : List Int) : Prop where
  s0 : 0 ≤ s
  s1 : s ≤ 1000000000000000
  w0 : ∀ x ∈ l, 0 ≤ x
  t0 : 0 < l.sum
  t1 : l.sum ≤ 1000000000000000
  n : l.length ≤ 200
theorem Fit.w {s : Int} {l : List Int} (h : Fit s l) : ∀ w ∈ l, 0 ≤ w ∧ w ≤ l.sum := fun w hw => ⟨h.w0 w hw, le_sum h.w0 w hw⟩
theorem Fit.rk {s : Int} {l : List Int} (h : Fit s l) : (rk (rs s l.sum l)).Perm (idx l.length) ∧ (rk (rs s l.sum l)).Pairwise (rOrd (rs s l.sum l)) := by
  have := rk_spec (rs s l.sum l) (by have := h.n; simp [rs]; omega)
  simpa [rs] using this
theorem Fit.take {s : Int} {l : List Int} (h : Fit s l) : ∀ y ∈ (M.rk (rs s l.sum l)).take (lf s l.sum l).toNat, 0 ≤ y ∧ y < (qs s l.sum l).length := by
  intro y hy; have := h.rk.1.mem_iff.1 (List.mem_of_mem_take hy); rw [mem_idx] at this
  simpa [qs] using this
theorem split_divide.eq {s : Int} {l : List Int} (h : Fit s l) : Ev (fun k => split_divide.f k s l.sum l) (pos s l) := by
  have g1 : (0 : Int) ≤ (l.length : Int) := by omega
  have g2 : (l.length : Int).toNat ≤ 35184372088832 := by have := h.n; omega
  simp only [split_divide.f, if_pos g1, if_pos g2]; have hn := h.n; have lb := lf_bounds s l h.t0; have hl : (rk (rs s l.sum l)).length = l.length := by rw [h.rk.1.length_eq, idx_length]
  have := split_divide.go0 s l.sum h.s0 h.s1 h.t0 h.t1 (pos s l) l [] l.length 0 s rfl (by simp) (by omega) h.w h.s1 (by have := h.s0; omega) (by
    refine Ev.bind (split_ranked.eq _ (by simp [rs]; omega)) ?_; have g3 : 0 ≤ s - (qs s l.sum l).sum := lb.1; have g4 : s - (qs s l.sum l).sum ≤ ((rk (rs s l.sum l)).length : Int) := by rw [hl]; exact lb.2.1
    simp only [List.nil_append, if_pos g3, if_pos g4, Option.bind_some]; refine split_divide.go1 ((rk (rs s l.sum l)).take (lf s l.sum l).toNat) [] (qs s l.sum l) ((((rk (rs s l.sum l)).take (lf s l.sum l).toNat).length : Nat) : Int) 0 rfl (by simp) (by rw [List.length_take]; omega) h.take (fun v hv => ?_); have := qs_bounds h.s0 h.s1 h.t0 l h.w v hv; have : ((rk (rs s l.sum l)).take (lf s l.sum l).toNat).length ≤ 200 := by simp; omega
    omega)
  simpa [qs, rs] using this
noncomputable def shr (a : Int) (l : List Int) : List Int := if a < 0 then (pos (-a) l).map (fun x => -x) else pos a l
theorem pos_bounds {s : Int} {l : List Int} (h : Fit s l) : ∀ v ∈ pos s l, 0 ≤ v ∧ v ≤ 2000000000000000 := by
  have key : ∀ (Y x : List Int) (b : Int), (∀ v ∈ x, 0 ≤ v ∧ v ≤ b) → (∀ y ∈ Y, 0 ≤ y ∧ y < x.length) → ∀ v ∈ inc x Y, 0 ≤ v ∧ v ≤ b + Y.length := by
    intro Y
    induction Y with
    | nil => intro x b h _ v hv; have := h v hv; simp; omega
    | cons y Y ih =>
      intro x b hx hy v hv; have hy0 := hy y (by simp)
      have := ih (x.set y.toNat (rd x y + 1)) (b + 1) (fun w hw => by
        have hm := hx _ (rd_mem' x y hy0.1 hy0.2)
        rcases mem_set' hw with rfl | hw
        · omega
        · have := hx w hw; omega) (fun z hz => by rw [List.length_set]; exact hy z (by simp [hz])) v hv
      simp only [List.length_cons]; omega
  intro v hv; have := key _ _ 1000000000000000 (qs_bounds h.s0 h.s1 h.t0 l h.w) h.take v hv; have hl : (M.rk (rs s l.sum l)).length = l.length := by rw [h.rk.1.length_eq, idx_length]
  have hn := h.n; have : ((M.rk (rs s l.sum l)).take (lf s l.sum l).toNat).length ≤ 200 := by simp; omega
  omega
theorem split_Shares.neg : ∀ (B A : List Int) (n i : Int), i = (A.length : Int) → n = (A.length : Int) + B.length → n < 1000000 → (∀ v ∈ B, 0 ≤ v ∧ v ≤ 2000000000000000) → Ev (fun k => split_Shares.l0 k (A ++ B) n i) (A ++ B.map (fun x => -x), 0)
  | [], A, n, i, hi, hn, hs, hB => by
    refine Ev.succ ?_; have g : ¬ i < n := by simp at hn; omega
    simp only [split_Shares.l0, if_neg g]
    simpa using Ev.const _
  | x :: B, A, n, i, hi, hn, hs, hB => by
    simp only [List.length_cons] at hn; have g : i < n := by omega
    have g1 : 0 ≤ i := by omega
    have g2 : i < ((A ++ x :: B).length : Int) := by simp; omega
    have r := rd_at A x B i hi; have hx := hB x (by simp); have e : wrap64 (i + 1) = i + 1 := w64 (by omega) (by omega); have e2 : wrap64 (-x) = -x := w64 (by omega) (by omega); refine Ev.succ ?_; simp only [split_Shares.l0, if_pos g, if_pos g1, if_pos g2, r, e, e2, set_at A x (-x) B i hi]; have ih := split_Shares.neg B (A ++ [-x]) n (i + 1) (by simp; omega) (by simp; omega) hs (fun z hz => hB z (by simp [hz]))
    simpa using ih
theorem shErr_le {a : Int} {l : List Int} : shErr a l = 0 → Fit (if a < 0 then -a else a) l := by
  intro h
  unfold shErr at h
  split at h
  · omega
  · split at h
    · omega
    · split at h
      · omega
      · split at h
        · omega
        · split at h
          · omega
          · rename_i h1 h2 h3 h4 h5
            have h3' : ∀ x ∈ l, 0 ≤ x := fun x hx => by
              have : ¬ x < 0 := fun k => h3 ⟨x, hx, k⟩
              omega
            have := sum_nonneg l h3'; exact ⟨by split <;> omega, by split <;> omega, h3', by omega, by omega, by omega⟩
theorem split_Shares.eq {a : Int} {l : List Int} (hl : l.length < 100000000000000) (hw : ∀ x ∈ l, x ≤ 9223372036854775807) : Ev (fun k => split_Shares.f k a l) (if shErr a l = 0 then shr a l else [], shErr a l) := by
  by_cases c1 : l.length > 200
  · have c1' : (l.length : Int) > 200 := by omega
    have : shErr a l = 9 := by unfold shErr; rw [if_pos c1]
    rw [this]; simp only [split_Shares.f, if_pos c1']; exact Ev.const _
  · have c1' : ¬ (l.length : Int) > 200 := by omega
    have J : ∀ b, b = (decide (a > 1000000000000000 ∨ a < -1000000000000000)) → Ev (fun k => split_Shares.j0 k a l b) (if shErr a l = 0 then shr a l else [], shErr a l) := by
      intro b hb; subst hb; refine Ev.succ ?_
      by_cases c2 : a > 1000000000000000 ∨ a < -1000000000000000
      · have : shErr a l = 4 := by unfold shErr; rw [if_neg c1, if_pos c2]
        rw [this]; simp only [split_Shares.j0, decide_eq_true c2, if_true]; exact Ev.const _
      · simp only [split_Shares.j0, decide_eq_false c2, Bool.false_eq_true, if_false]; have T := split_total.eq l (by omega) hw; refine Ev.bind T ?_
        by_cases c3 : ∃ x ∈ l, x < 0
        · have : shErr a l = 2 := by unfold shErr; rw [if_neg c1, if_neg c2, if_pos c3]
          rw [this]; simp only [if_pos c3]; exact Ev.const _
        · simp only [if_neg c3, sumFrom_zero]
          by_cases c4 : l.sum > 1000000000000000
          · have : shErr a l = 4 := by unfold shErr; rw [if_neg c1, if_neg c2, if_neg c3, if_pos c4]
            rw [this]; simp only [if_pos c4]; exact Ev.const _
          · by_cases c5 : l.sum = 0
            · have : shErr a l = 2 := by unfold shErr; rw [if_neg c1, if_neg c2, if_neg c3, if_neg c4, if_pos c5]
              rw [this]; simp only [if_neg c4, if_pos c5]; exact Ev.const _
            · have z : shErr a l = 0 := by unfold shErr; rw [if_neg c1, if_neg c2, if_neg c3, if_neg c4, if_neg c5]
              have F := shErr_le z; rw [z]; simp only [if_neg c4, if_neg c5, if_true]
              unfold shr
              by_cases c6 : a < 0
              · simp only [if_pos c6] at F ⊢; rw [w64 (n := -a) (by omega) (by omega)]; refine Ev.bind (split_divide.eq F) ?_
                have hlen : ((pos (-a) l).length : Int) ≤ 200 := by
                  unfold pos; rw [inc_length]; simp [qs]; omega
                have := split_Shares.neg (pos (-a) l) [] (pos (-a) l).length 0 rfl (by simp) (by omega) (pos_bounds F)
                simpa using this
              · simp only [if_neg c6] at F ⊢; exact Ev.bind (split_divide.eq F) (Ev.const _)
    by_cases c2 : a > 1000000000000000
    · simp only [split_Shares.f, if_neg c1', if_pos c2]; exact J true (by simp [c2])
    · simp only [split_Shares.f, if_neg c1', if_neg c2]; exact J _ (by simp [c2])
end Go.Proofs.Ytadognlkefhoiaa.M
end
section
namespace Go.Proofs.Ytadognlkefhoiaa.M
open Go.RowKit Go.Proofs.YtadognlkefhoiaaW.PrintWords Go.Proofs.YtadognlkefhoiaaW.PrintLast Go.Proofs.YtadognlkefhoiaaW.PrintMore
attribute [local go_sem] max2_int min2_int max_two min_two max_three min_three max_four min_four
set_option linter.unusedVariables false
set_option linter.unusedSimpArgs false
def accountingref08_Same.l0 : Nat → List Int → List Int → Int → Option (Bool)
  | 0, _, _, _ => none
  | k + 1, x0, x1, x5 => if x5 < (x0.length : Int) then (if 0 ≤ x5 then (if x5 < (x1.length : Int) then (if (rd x0 x5) = (rd x1 x5) then (accountingref08_Same.l0 k x0 x1 (wrap64 (x5 + 1))) else (some false)) else (none)) else (none)) else (some true)
def accountingref08_Same.f (k : Nat) (l0 : List Int) (l1 : List Int) : Option (Bool) := if (l0.length : Int) = (l1.length : Int) then (accountingref08_Same.l0 k l0 l1 0) else (some false)
theorem accountingref08_Same.mono_l : ∀ k, (∀ y0 y1 y2, LeO (accountingref08_Same.l0 k y0 y1 y2) (accountingref08_Same.l0 (k + 1) y0 y1 y2))
  | 0 => fun _ _ _ r h => by simp [accountingref08_Same.l0] at h
  | k + 1 => by
    have ih0 := accountingref08_Same.mono_l k
    · intro y0 y1 y2
      unfold accountingref08_Same.l0
      repeat' first
      | (with_reducible exact ih0 _ _ _)
      | (with_reducible exact LeO.refl _)
      | (with_reducible exact LeO.none _)
      | (with_reducible refine LeO.ite ?_ ?_)
      | (with_reducible refine LeO.bind ?_ (fun _ => ?_))
      | exact ih0 _ _ _
      | exact LeO.none _
      | refine LeO.ite ?_ ?_
      | refine LeO.bind ?_ (fun _ => ?_)
theorem accountingref08_Same.mono : ∀ a0 a1 k, LeO (accountingref08_Same.f k a0 a1) (accountingref08_Same.f (k + 1) a0 a1) := by
 intro a0 a1 k; have ih0 := accountingref08_Same.mono_l k
 unfold accountingref08_Same.f
 repeat' first
   | (with_reducible exact ih0 _ _ _)
   | (with_reducible exact LeO.refl _)
   | (with_reducible exact LeO.none _)
   | (with_reducible refine LeO.ite ?_ ?_)
   | (with_reducible refine LeO.bind ?_ (fun _ => ?_))
   | exact ih0 _ _ _
   | exact LeO.none _
   | refine LeO.ite ?_ ?_
   | refine LeO.bind ?_ (fun _ => ?_)
set_option maxHeartbeats 8000000 in
set_option maxRecDepth 100000 in
theorem accountingref08_Same.calls (k : Nat) (A0 : Option Addr) (c0 : Nat) (l0 : List Int) (A1 : Option Addr) (c1 : Nat) (l1 : List Int) (r : Bool) (w : World) (hr0 : Kd.C (Kd.int .i64) w A0 l0.length l0) (hc0 : l0.length ≤ c0) (hr1 : Kd.C (Kd.int .i64) w A1 l1.length l1) (hc1 : l1.length ≤ c1) (h : accountingref08_Same.f k l0 l1 = some r) :
    Calls Try.prog 14 #[.slice A0 l0.length c0, .slice A1 l1.length c1] w fun e w' => e = .returned (.bool r) ∧ Drawn0 w w' := by
 have hu3 := Try.underlying3; have HR0 := Aside0.mk hr0; have HC0 := Aside0.mk hc0; clear hr0 hc0; have HR1 := Aside0.mk hr1; have HC1 := Aside0.mk hc1; clear hr1 hc1; have H : (if (l0.length : Int) = (l1.length : Int) then (accountingref08_Same.l0 k l0 l1 0) else (some false)) = some r := h; clear h
 by_cases c3 : (l0.length : Int) = (l1.length : Int)
 ·rw [if_pos c3] at H; have c3b0 : ((l0.length : Int) == (l1.length : Int)) = true := beq_iff_eq.mpr c3; have c3b1 : ((l0.length : Int) != (l1.length : Int)) = false := bne_eq_false_iff_eq.mpr c3; have c3b2 : (l0.length == l1.length) = true := by first | simpa using c3 | (simp at c3 ⊢; omega)
  clear c3; have H' := Aside0.mk H; clear H; go_enter Try.func14, Try.ntmps14
  go_wp2
  repeat (go_quiet (fail); try go_wp2)
  go_loopg [5] k (fun kq v5 w' => ∃ (x5_1 : Int), v5 = .int .i64 x5_1 ∧ Aside0 (accountingref08_Same.l0 kq l0 l1 x5_1 = some r) ∧ Aside0 (kq ≤ k) ∧ Drawn0 w w')
  case atStart => exact ⟨(0), pbb2_0, H', ⟨Nat.le_refl _⟩, pbb2_1⟩
  case round =>
   clear H'; (try clear c1); (try clear p2); (try clear c3); (try clear c3b0); (try clear c3b1); (try clear c3b2); obtain ⟨x5_1, rfl, HA, HK1, ⟨m1, rfl⟩⟩ := hrel
   cases gk with
   | zero => exact absurd HA.out (by simp [accountingref08_Same.l0])
   | succ k1 =>
    have H := HA.out; clear HA; simp only [accountingref08_Same.l0] at H
    by_cases c4 : x5_1 < (l0.length : Int)
    ·rw [if_pos c4] at H; have c4b0 : decide (x5_1 < (l0.length : Int)) = true := decide_eq_true c4; clear c4
     by_cases c5 : 0 ≤ x5_1
     ·rw [if_pos c5] at H; have c5b0 : decide (0 ≤ x5_1) = true := decide_eq_true c5; clear c5
      by_cases c6 : x5_1 < (l1.length : Int)
      ·rw [if_pos c6] at H; have c6b0 : decide (x5_1 < (l1.length : Int)) = true := decide_eq_true c6; clear c6
       by_cases c7 : (rd l0 x5_1) = (rd l1 x5_1)
       ·rw [if_pos c7] at H; have c7b0 : ((rd l0 x5_1) == (rd l1 x5_1)) = true := beq_iff_eq.mpr c7; have c7b1 : ((rd l0 x5_1) != (rd l1 x5_1)) = false := bne_eq_false_iff_eq.mpr c7; clear c7; have H' := Aside0.mk H; clear H; have p101 : 0 ≤ (x5_1 : Int) := of_decide_eq_true pbb4_0; have q101 : x5_1 < (l0.length : Int) := of_decide_eq_true pbb4_0; obtain ⟨ad101, e101, hx101_0⟩ := Kd.at_int HR0.out x5_1 p101 q101
        cases e101
        replace p101 := eq_true p101; replace q101 := eq_true q101; have p102 : 0 ≤ (x5_1 : Int) := of_decide_eq_true pbb4_0; have q102 : x5_1 < (l1.length : Int) := of_decide_eq_true pbb4_0; obtain ⟨ad102, e102, hx102_0⟩ := Kd.at_int HR1.out x5_1 p102 q102
        cases e102
        replace p102 := eq_true p102; replace q102 := eq_true q102
        go_wp2
        repeat (go_quiet (fail); try go_wp2)
        go_roundg k1
        case measure => have := HK1.out; omega
        case rel => exact ⟨(wrap64 (x5_1 + 1)), pbb2_0, H', ⟨by have := HK1.out; omega⟩, pbb2_1⟩
       ·rw [if_neg c7] at H; have c7b0 : ((rd l0 x5_1) == (rd l1 x5_1)) = false := beq_eq_false_iff_ne.mpr c7; have c7b1 : ((rd l0 x5_1) != (rd l1 x5_1)) = true := bne_iff_ne.mpr c7; obtain rfl := Option.some.inj H; have p101 : 0 ≤ (x5_1 : Int) := of_decide_eq_true pbb4_0; have q101 : x5_1 < (l0.length : Int) := of_decide_eq_true pbb4_0; obtain ⟨ad101, e101, hx101_0⟩ := Kd.at_int HR0.out x5_1 p101 q101
        cases e101
        replace p101 := eq_true p101; replace q101 := eq_true q101; have p102 : 0 ≤ (x5_1 : Int) := of_decide_eq_true pbb4_0; have q102 : x5_1 < (l1.length : Int) := of_decide_eq_true pbb4_0; obtain ⟨ad102, e102, hx102_0⟩ := Kd.at_int HR1.out x5_1 p102 q102
        cases e102
        replace p102 := eq_true p102; replace q102 := eq_true q102
        go_wp2
        repeat (go_quiet (fail); try go_wp2)
        go_ret
        exact ⟨pbb2_0, pbb2_1⟩
      ·rw [if_neg c6] at H; exact absurd H (by simp)
     ·rw [if_neg c5] at H; exact absurd H (by simp)
    ·rw [if_neg c4] at H; have c4b0 : decide (x5_1 < (l0.length : Int)) = false := decide_eq_false c4; clear c4; obtain rfl := Option.some.inj H
     go_wp2
     repeat (go_quiet (fail); try go_wp2)
     go_ret
     exact ⟨pbb2_0, pbb2_1⟩
 ·rw [if_neg c3] at H; have c3b0 : ((l0.length : Int) == (l1.length : Int)) = false := beq_eq_false_iff_ne.mpr c3; have c3b1 : ((l0.length : Int) != (l1.length : Int)) = true := bne_iff_ne.mpr c3; have c3b2 : (l0.length == l1.length) = false := by first | simpa using c3 | (simp at c3 ⊢; omega)
  obtain rfl := Option.some.inj H; go_enter Try.func14, Try.ntmps14
  go_wp2
  repeat (go_quiet (fail); try go_wp2)
  go_ret
  exact ⟨pbb2_0, pbb2_1⟩
end Go.Proofs.Ytadognlkefhoiaa.M
end
section
namespace Go.Proofs.Ytadognlkefhoiaa.M
open Go.RowKit Go.Proofs.YtadognlkefhoiaaW.PrintWords Dv
set_option linter.unusedVariables false
theorem wfb {x : Int} (h : (Lit.int .i64 x).wf = true) : -9223372036854775808 ≤ x ∧ x ≤ 9223372036854775807 := by
  have e1 : IntKind.i64.min = -9223372036854775808 := by decide
  have e2 : IntKind.i64.max = 9223372036854775807 := by decide
  simp [Lit.wf, e1, e2] at h
  exact h
theorem accountingref08_Same.go (L : List Int) (hs : L.length < 100000000000000) : ∀ (d : Nat) (i : Int), i + d = L.length → 0 ≤ i → Ev (fun k => accountingref08_Same.l0 k L L i) true
  | 0, i, hi, h0 => by
    refine Ev.succ ?_; have g : ¬ i < (L.length : Int) := by omega
    simp only [accountingref08_Same.l0, if_neg g]; exact Ev.const _
  | d + 1, i, hi, h0 => by
    refine Ev.succ ?_; have g : i < (L.length : Int) := by omega
    have e : wrap64 (i + 1) = i + 1 := w64 (by omega) (by omega); simp only [accountingref08_Same.l0, if_pos g, if_pos h0, if_true, e]; exact accountingref08_Same.go L hs d (i + 1) (by omega) (by omega)
theorem accountingref08_Same.self (L : List Int) (hs : L.length < 100000000000000) : Ev (fun k => accountingref08_Same.f k L L) true := by
  simp only [accountingref08_Same.f, if_true]; exact accountingref08_Same.go L hs L.length 0 (by omega) (by omega)
theorem pos_length (s : Int) (l : List Int) : (pos s l).length = l.length := by unfold pos; rw [inc_length]; simp [qs]
theorem shr_length (a : Int) (l : List Int) : (shr a l).length = l.length := by
  unfold shr; split
  · rw [List.length_map, pos_length]
  · exact pos_length _ _
theorem sum_set (x : List Int) : ∀ (n : Nat) (v : Int), n < x.length → (x.set n v).sum = x.sum + v - x.getD n 0 := by
  induction x with
  | nil => intro n v h; simp at h
  | cons y x ih =>
    intro n v h
    cases n with
    | zero => simp; omega
    | succ n =>
      have := ih n v (by simpa using h); simp only [List.set_cons_succ, List.sum_cons, List.getD_cons_succ, this]; omega
theorem sum_inc : ∀ (Y x : List Int), (∀ y ∈ Y, 0 ≤ y ∧ y < x.length) → (inc x Y).sum = x.sum + Y.length
  | [], x, _ => by simp [inc]
  | y :: Y, x, h => by
    have h0 := h y (by simp); rw [inc_cons, sum_inc Y _ (fun z hz => by rw [List.length_set]; exact h z (by simp [hz])), sum_set x y.toNat _ (by omega)]; simp only [List.length_cons, rd]; omega
theorem pos_sum {s : Int} {l : List Int} (h : Fit s l) : (pos s l).sum = s := by
  have lb := lf_bounds s l h.t0; have hl : (rk (rs s l.sum l)).length = l.length := by rw [h.rk.1.length_eq, idx_length]
  unfold pos
  rw [sum_inc _ _ h.take, List.length_take, hl]; have e : lf s l.sum l = s - (qs s l.sum l).sum := rfl
  omega
theorem sum_neg : ∀ l : List Int, (l.map (fun x => -x)).sum = -l.sum
  | [] => by simp
  | x :: l => by simp only [List.map_cons, List.sum_cons, sum_neg l]; omega
theorem shr_sum {a : Int} {l : List Int} (h : shErr a l = 0) : (shr a l).sum = a := by
  have F := shErr_le h
  unfold shr
  by_cases c : a < 0
  · simp only [if_pos c] at F ⊢; rw [sum_neg, pos_sum F]; omega
  · simp only [if_neg c] at F ⊢; exact pos_sum F
theorem shr_bounds {a : Int} {l : List Int} (h : shErr a l = 0) : ∀ v ∈ shr a l, -2000000000000000 ≤ v ∧ v ≤ 2000000000000000 := by
  have F := shErr_le h
  unfold shr
  by_cases c : a < 0
  · simp only [if_pos c] at F ⊢; intro v hv; obtain ⟨w, hw, rfl⟩ := List.mem_map.1 hv; have := pos_bounds F w hw
    omega
  · simp only [if_neg c] at F ⊢; intro v hv; have := pos_bounds F v hv
    omega
theorem shErr_many {a : Int} {l : List Int} (h : l.length > 200) : shErr a l = 9 := by unfold shErr; rw [if_pos h]
end Go.Proofs.Ytadognlkefhoiaa.M
end
section
namespace Go.Proofs.Ytadognlkefhoiaa.M
open Go.RowKit Go.Proofs.YtadognlkefhoiaaW.PrintWords Go.Proofs.YtadognlkefhoiaaW.PrintLast Go.Proofs.YtadognlkefhoiaaW.PrintMore
attribute [local go_sem] max2_int min2_int max_two min_two max_three min_three max_four min_four
set_option linter.unusedVariables false
set_option linter.unusedSimpArgs false
def deprec_weighted.f (k : Nat) (a0 : Int) (l1 : List Int) : Option (List Int) := if 0 ≤ (l1.length : Int) then (if ((l1.length : Int) : Int).toNat ≤ 35184372088832 then ((pw_copy_24.f (List.replicate ((l1.length : Int) : Int).toNat 0) l1).bind fun bt104 => ((split_Shares.f k a0 bt104.2).bind fun bt106 => (some bt106.1))) else (none)) else (none)
theorem deprec_weighted.mono : ∀ a0 a1 k, LeO (deprec_weighted.f k a0 a1) (deprec_weighted.f (k + 1) a0 a1) := by
 intro a0 a1 k
 unfold deprec_weighted.f
 repeat' first
   | (with_reducible exact split_Shares.mono _ _ _)
   | (with_reducible exact LeO.refl _)
   | (with_reducible exact LeO.none _)
   | (with_reducible refine LeO.ite ?_ ?_)
   | (with_reducible refine LeO.bind ?_ (fun _ => ?_))
   | exact split_Shares.mono _ _ _
   | exact LeO.none _
   | refine LeO.ite ?_ ?_
   | refine LeO.bind ?_ (fun _ => ?_)
set_option maxHeartbeats 8000000 in
set_option maxRecDepth 100000 in
theorem deprec_weighted.calls (k : Nat) (a0 : Int) (A1 : Option Addr) (c1 : Nat) (l1 : List Int) (r : List Int) (w : World) (hr1 : Kd.C (Kd.int .i64) w A1 l1.length l1) (hc1 : l1.length ≤ c1) (h : deprec_weighted.f k a0 l1 = some r) :
    Calls Try.prog 24 #[.int .i64 a0, .slice A1 l1.length c1] w fun e w' => ∃ v0_ : Value, e = .returned (v0_) ∧ Kd.R (Kd.int .i64) 3 w' w.heap.size (fun _ => True) v0_ r ∧ Below w.heap.size w w' := by
 have HR1 := Aside0.mk hr1; have HC1 := Aside0.mk hc1; clear hr1 hc1; have HB := Aside0.mk (Below.refl w.heap.size w); have H : (if 0 ≤ (l1.length : Int) then (if ((l1.length : Int) : Int).toNat ≤ 35184372088832 then ((pw_copy_24.f (List.replicate ((l1.length : Int) : Int).toNat 0) l1).bind fun bt104 => ((split_Shares.f k a0 bt104.2).bind fun bt106 => (some bt106.1))) else (none)) else (none)) = some r := h; clear h
 by_cases c3 : 0 ≤ (l1.length : Int)
 ·rw [if_pos c3] at H; have c3b0 := eq_true c3; have c3b1 : decide (0 ≤ (l1.length : Int)) = true := decide_eq_true c3; clear c3
  by_cases c4 : ((l1.length : Int) : Int).toNat ≤ 35184372088832
  ·rw [if_pos c4] at H; have c4b0 := eq_true c4; have c4b1 : decide (((l1.length : Int) : Int).toNat ≤ 35184372088832) = true := decide_eq_true c4; clear c4; obtain ⟨y101, hy101⟩ : ∃ y_ : List Int, y_ = (List.replicate ((l1.length : Int) : Int).toNat 0) := ⟨_, rfl⟩; replace H : ((pw_copy_24.f y101 l1).bind fun bt104 => ((split_Shares.f k a0 bt104.2).bind fun bt106 => (some bt106.1))) = some r := by first | (rw [hy101]; with_reducible exact H) | (have H2_ := (Option.bind_some _ _).symm.trans H; rw [hy101]; with_reducible exact H2_) | (have H2_ := (Option.bind_some _ _).symm.trans H; with_reducible exact H2_) | with_reducible exact H | (rw [hy101]; exact H) | exact H
   have Ny101 := Aside0.mk hy101; clear hy101; replace H := Option.bind_eq_some_iff.mp H; obtain ⟨⟨t104, t105⟩, A50, H⟩ := H; replace H : ((split_Shares.f k a0 t105).bind fun bt106 => (some bt106.1)) = some r := H; have A5 := Aside0.mk A50; clear A50; replace H := Option.bind_eq_some_iff.mp H; obtain ⟨⟨t106, t107⟩, A60, H⟩ := H; replace H : (some t106) = some r := H; have A6 := Aside0.mk A60; clear A60; obtain rfl := Option.some.inj H; go_enter Try.func24, Try.ntmps24
   go_wp2_with (first | ((with_reducible refine gate_dst (N := 10) rfl ?_); refine Kd.R_make (Kd.int .i64) _ 3 rfl (N := 10) rfl 24 _ _ rfl (l1.length : Int) rfl rfl Try.underlying24 (.int .i64 0) 8 info3 rfl (by decide) (by omega) 0 (ok := fun _ => True) (okp := fun _ => True) rfl (fun _ hk => hk) trivial (of_decide_eq_true pbb4_0) (Nat.le_trans (Nat.mul_le_mul_right _ (of_decide_eq_true pbb4_0 : (l1.length : Int).toNat ≤ 35184372088832)) (by omega)) (Below.refl _ _) (Nat.le_refl _) ?_; intro v102 w7 ho8 hb hg_ hnew_; clear hg_ hnew_; (first | rw [← Ny101.out] at ho8 | (simp only [Int.reduceToNat] at ho8; rw [← Ny101.out] at ho8)); have n0_ := Aside0.mk (Kd.R_lower ho8 (below_size pbb2_2)); have n1_ := Aside0.mk (below_step pbb2_2 hb); clear HB; have HO103 := n0_; have HB := n1_; clear n0_ n1_; clear hb ho8; obtain ⟨Ao9, co9, eo9⟩ := Kd.R_slice HO103.out; subst eo9) | (refine copyL_ (some 13) rfl rfl rfl #[.slice Ao9 y101.length co9, .slice A1 l1.length c1] (by first | rfl | (simp only [List.length_drop, List.length_take]; rfl)) ?_; (with_reducible refine (pw_copy_24.calls (fun k_ => some k_ = (.slice Ao9 y101.length co9 : Value).ownBlock) (.slice Ao9 y101.length co9) y101 _ _ l1 t104 t105 w _ ?side1 ?side2 ?side3 ?side4 A5.out).mono ?_); (case side1 => repeat (first | (with_reducible first | exact HB.out | apply below_alloc | apply pw_below_drewN | apply below_drew1) | exact HB.out)); (case side2 => exact Kd.R_tight rfl HO103.out); (case side3 => exact Kd.C_kept_came (Kd.heap_int .i64) HR1.out pbb2_2 (fun k_ hs_ => (fun e_ => Kd.R_base HO103.out k_ e_.symm) hs_)); (case side4 => exact HC1.out); rintro e w10 ⟨rfl, hy0, hb, hkp⟩; refine ⟨_, rfl, ?_⟩; have n0_ := Aside0.mk (Kd.R_reok rfl hy0 (fun k_ e_ => HO103.out.1 k_ e_)); have n1_ := Aside0.mk (hb); clear HO103; clear HB; have HO103 := n0_; have HB := n1_; clear n0_ n1_; (try clear hb); (try clear hkp); (try clear hy0)) | ((with_reducible refine gate_callee (f := 38) rfl ?_); refine goesL_ (some 17) rfl rfl Try.func38 (by kernel_rfl) rfl #[.int .i64 a0, .slice Ao9 t105.length co9] rfl (by (try simp only [List.map_toArray, List.map_cons, List.map_nil]); first | done | (rw [show t105.length = y101.length from (Kd.R_reads' HO103.out).1.symm] <;> rfl) | rfl | (simp only [List.length_drop, List.length_take]; rfl)) ?_; (with_reducible refine (split_Shares.calls k a0 _ _ t105 t106 t107 _ ?side1 ?side2 A6.out).mono ?_); (case side1 => repeat (first | exact (Kd.R_reads' HO103.out).2.2 | (with_reducible refine Kd.C_alloc ?_ _) | (with_reducible refine Kd.C_drewN ?_ _) | (with_reducible refine Kd.C_drew ?_))); (case side2 => rw [show t105.length = y101.length from (Kd.R_reads' HO103.out).1.symm]; exact (Kd.R_reads' HO103.out).2.1); rintro e w11 ⟨v108, rfl, ho0, hb⟩; refine ⟨_, rfl, ?_⟩; have n0_ := Aside0.mk (Kd.R_elder' pbb8_1 (Kd.R_base ho0) hb); have n1_ := Aside0.mk (Kd.R_lower (Kd.R_new' ho0 (Kd.R_lt pbb8_1)) (below_size pbb2_2)); have n2_ := Aside0.mk (below_step pbb2_2 hb); clear HO103; clear HB; have HO103 := n0_; have HO109 := n1_; have HB := n2_; clear n0_ n1_ n2_; (try clear hb); (try clear hb2); (try clear hk); (try clear hi); (try clear ho0)))
   go_ret
   exact ⟨_, pbb2_6, by (with_reducible repeat (first | apply Kd.R_alloc | apply Kd.R_drewN | apply Kd.R_drew)); exact Kd.R_mono HO109.out (fun _ hk => trivial), pbb2_2⟩
  ·rw [if_neg c4] at H; exact absurd H (by simp)
 ·rw [if_neg c3] at H; exact absurd H (by simp)
def deprec_digits.l0 : Nat → Int → List Int → Int → Int → Option (List Int)
  | 0, _, _, _, _ => none
  | k + 1, x0, x2, x4, x5 => if x5 < x4 then (if x2.length < 17592186044416 then (deprec_digits.l0 k x0 (x2 ++ [wrap64 (x0 - x5)]) x4 (wrap64 (x5 + 1))) else (none)) else (some x2)
def deprec_digits.f (k : Nat) (a0 : Int) : Option (List Int) := deprec_digits.l0 k a0 ([] : List Int) a0 0
theorem deprec_digits.mono_l : ∀ k, (∀ y0 y1 y2 y3, LeO (deprec_digits.l0 k y0 y1 y2 y3) (deprec_digits.l0 (k + 1) y0 y1 y2 y3))
  | 0 => fun _ _ _ _ r h => by simp [deprec_digits.l0] at h
  | k + 1 => by
    have ih0 := deprec_digits.mono_l k
    · intro y0 y1 y2 y3
      unfold deprec_digits.l0
      repeat' first
      | (with_reducible exact ih0 _ _ _ _)
      | (with_reducible exact LeO.refl _)
      | (with_reducible exact LeO.none _)
      | (with_reducible refine LeO.ite ?_ ?_)
      | (with_reducible refine LeO.bind ?_ (fun _ => ?_))
      | exact ih0 _ _ _ _
      | exact LeO.none _
      | refine LeO.ite ?_ ?_
      | refine LeO.bind ?_ (fun _ => ?_)
theorem deprec_digits.mono : ∀ a0 k, LeO (deprec_digits.f k a0) (deprec_digits.f (k + 1) a0) := by
 intro a0 k; have ih0 := deprec_digits.mono_l k
 unfold deprec_digits.f
 repeat' first
   | (with_reducible exact ih0 _ _ _ _)
   | (with_reducible exact LeO.refl _)
   | (with_reducible exact LeO.none _)
   | (with_reducible refine LeO.ite ?_ ?_)
   | (with_reducible refine LeO.bind ?_ (fun _ => ?_))
   | exact ih0 _ _ _ _
   | exact LeO.none _
   | refine LeO.ite ?_ ?_
   | refine LeO.bind ?_ (fun _ => ?_)
set_option maxHeartbeats 8000000 in
set_option maxRecDepth 100000 in
theorem deprec_digits.calls (k : Nat) (a0 : Int) (r : List Int) (w : World) (h : deprec_digits.f k a0 = some r) :
    Calls Try.prog 25 #[.int .i64 a0] w fun e w' => ∃ v0_ : Value, e = .returned (v0_) ∧ Kd.R (Kd.int .i64) 3 w' w.heap.size (fun _ => True) v0_ r ∧ Below w.heap.size w w' := by
 have HB := Aside0.mk (Below.refl w.heap.size w); have H : (deprec_digits.l0 k a0 ([] : List Int) a0 0) = some r := h; clear h; have H' := Aside0.mk H; clear H; go_enter Try.func25, Try.ntmps25
 go_wp2
 go_loopg [2, 5] k (fun kq v2 v5 w' => ∃ (x2_1 : List Int) (x5_1 : Int), v5 = .int .i64 x5_1 ∧ Aside0 (deprec_digits.l0 kq a0 x2_1 a0 x5_1 = some r) ∧ Aside0 (kq ≤ k) ∧ Aside0 (Kd.R (Kd.int .i64) 3 w' w.heap.size (fun _ => True) v2 x2_1) ∧ Aside0 (Below w.heap.size w w'))
 case atStart => exact ⟨(([] : List Int)), (0), pbb2_0, H', ⟨Nat.le_refl _⟩, ⟨pbb8_0⟩, ⟨pbb2_2⟩⟩
 case round =>
  clear H'; obtain ⟨x2_1, x5_1, rfl, HA, HK1, HO_2, HB⟩ := hrel
  cases gk with
  | zero => exact absurd HA.out (by simp [deprec_digits.l0])
  | succ k1 =>
   have H := HA.out; clear HA; simp only [deprec_digits.l0] at H
   by_cases c2 : x5_1 < a0
   ·rw [if_pos c2] at H; have c2b0 : decide (x5_1 < a0) = true := decide_eq_true c2; clear c2
    by_cases c3 : x2_1.length < 17592186044416
    ·rw [if_pos c3] at H; have LMc3 := Aside0.mk c3; clear c3; obtain ⟨y101, hy101⟩ : ∃ y_ : List Int, y_ = (x2_1 ++ [wrap64 (a0 - x5_1)]) := ⟨_, rfl⟩; replace H : (deprec_digits.l0 k1 a0 y101 a0 (wrap64 (x5_1 + 1))) = some r := by first | (rw [hy101]; with_reducible exact H) | (have H2_ := (Option.bind_some _ _).symm.trans H; rw [hy101]; with_reducible exact H2_) | (have H2_ := (Option.bind_some _ _).symm.trans H; with_reducible exact H2_) | with_reducible exact H | (rw [hy101]; exact H) | exact H
     have Ny101 := Aside0.mk hy101; clear hy101; have H' := Aside0.mk H; clear H
     go_wp2_with (first | ((with_reducible refine gate_builtin (b := .append) (xs := #[.tmp 8, .tmp 12]) rfl ?_); at_builtin; refine Kd.R_append (Kd.int .i64) (w0 := w) w.heap.size rfl (.tmp 8) (.tmp 12) 24 3 (.int .i64 0) 8 rfl Try.underlying24 info3 rfl (by decide) (by omega) u2 x2_1 (wrap64 (a0 - x5_1)) [.int .i64 (wrap64 (a0 - x5_1))] (fun _ => True) (fun _ => False) rfl rfl ?aP (fun _ hk => hk.elim) ?aF ?aO ?aB ?aS ?aL ?_; (case aP => exact rfl); (case aB => exact pbb2_2); (case aF => exact (fun _ _ => trivial)); (case aO => exact (by (with_reducible repeat (first | apply Kd.R_alloc | apply Kd.R_drewN | apply Kd.R_drew)); exact HO_2.out)); (case aS => exact (below_size pbb2_2)); (case aL => have := LMc3.out; omega); intro v102 w4 ho hb hg hat; rw [← Ny101.out] at ho; have n0_ := Aside0.mk (hb); have n1_ := Aside0.mk (ho); clear HB; clear HO_2; have HB := n0_; have HO103 := n1_; clear n0_ n1_; clear ho hb hg hat))
     go_roundg k1
     case measure => have := HK1.out; omega
     case rel => exact ⟨(y101), (wrap64 (x5_1 + 1)), pbb2_0, H', ⟨by have := HK1.out; omega⟩, ⟨pbb8_1⟩, ⟨pbb2_2⟩⟩
    ·rw [if_neg c3] at H; exact absurd H (by simp)
   ·rw [if_neg c2] at H; have c2b0 : decide (x5_1 < a0) = false := decide_eq_false c2; clear c2; obtain rfl := Option.some.inj H
    go_wp2
    go_ret
    exact ⟨_, pbb2_6, by (with_reducible repeat (first | apply Kd.R_alloc | apply Kd.R_drewN | apply Kd.R_drew)); exact HO_2.out, pbb2_2⟩
end Go.Proofs.Ytadognlkefhoiaa.M
end
section
namespace Go.Proofs.YtadognlkefhoiaaW.PrintLast
open Go.RowKit Go.Proofs.YtadognlkefhoiaaW.PrintWords
section
variable {P : Program} {ops : Array Oper} {Q : Exit → Act → World → Prop}
theorem goesFL_ {rest : List Oper} {oi : Oper} {a : Act} {w : World} (N : Option Tmp) (hd : oi.dst = N) (hg : oi.guard = none) {f : FuncId} {fn : Func} {as_ : Array Operand} {ts : Array TypeId} {t : Tmp} {cap : Array Value} (hf : P.funcs[f]? = some fn) (hname : (fn.name == "runtime.NumGoroutine") = false) (hb : fn.body.isSome = true) (args : Array Value)
    (hop : oi.op = .call { callee := .value (.tmp t), args := as_, argTypes := ts }) (hv : a.eval (.tmp t) = .func (.func f) #[] cap) (hargs : as_.map a.eval ++ cap = args)
    (h : Calls P f args w fun e w' => ∃ v, e = .returned v ∧ wpList P ops Q rest (a.put N v) w') : wpList P ops Q (oi :: rest) a w := by
  refine wpList_plain hg fun K hK => ?_; have he := enters_ hf hname hb args w
  have hrun : (execOp a.eval oi).run P w = .ok (.enter f args) w := by
    unfold execOp
    simp [hop, resolve, hv, Deferred.ofValue, invoke, hargs, he]
  unfold Oper.wp
  rw [hrun, Oper.upon_enter]; refine h.mono fun e w'' hh => ?_; obtain ⟨v, rfl, hk⟩ := hh; subst hd; exact hK _ _ hk
end
end Go.Proofs.YtadognlkefhoiaaW.PrintLast
end
section
namespace Go.Proofs.Ytadognlkefhoiaa.M
open Go.RowKit Go.Proofs.YtadognlkefhoiaaW.PrintWords Go.Proofs.YtadognlkefhoiaaW.PrintLast Go.Proofs.YtadognlkefhoiaaW.PrintMore
attribute [local go_sem] max2_int min2_int max_two min_two max_three min_three max_four min_four
set_option linter.unusedVariables false
set_option linter.unusedSimpArgs false
def PlanAt (w : World) (g : Nat) (c0 c1 c2 c3 c4 c5 : Int) (sv : Value) : Prop := w.heap[g]? = some (.cells #[.int .i64 c0, .int .i64 c1, .int .i64 c2, .int .i64 c3, .int .i64 c4, .int .i64 c5, sv] 26 (0, 0))
def deprec_straight_1.f (k : Nat) (c1 c2 c3 x : Int) : Option Int := (muldiv_MulDiv.f k (wrap64 (c1 - c2)) x c3 4).bind fun t => some t.1
def deprec_straight_2.f (k : Nat) (c1 c2 c3 : Int) (x : Int) : Option Int := (deprec_straight_1.f k c1 c2 c3 x).bind fun t => (deprec_straight_1.f k c1 c2 c3 (wrap64 (x - 1))).bind fun u => some (wrap64 (t - u))
set_option maxHeartbeats 4000000 in
set_option maxRecDepth 100000 in
theorem deprec_straight_1.calls (k : Nat) (g : Nat) (c0 c1 c2 c3 c4 c5 : Int) (sv : Value) (x t : Int) (w : World) (hb : Aside0 (PlanAt w g c0 c1 c2 c3 c4 c5 sv)) (h : deprec_straight_1.f k c1 c2 c3 x = some t) :
    Calls Try.prog 33 #[.int .i64 x, .pointer (some ⟨g, 0, none⟩)] w fun e w' => e = .returned (.int .i64 t) ∧ Below w.heap.size w w' := by
  obtain ⟨⟨t0, t1⟩, h0, h1⟩ := Option.bind_eq_some_iff.mp h; injection h1 with h1
  simp only at h1; subst h1; have H := Aside0.mk h0; clear h h0; have HB := Aside0.mk (Below.refl w.heap.size w); have hc1 : w.cell? ⟨g, 1, none⟩ = some (.int .i64 c1) := (blk_cell hb.out 1).trans rfl; have hc2 : w.cell? ⟨g, 2, none⟩ = some (.int .i64 c2) := (blk_cell hb.out 2).trans rfl; have hc3 : w.cell? ⟨g, 3, none⟩ = some (.int .i64 c3) := (blk_cell hb.out 3).trans rfl; go_enter Try.func33, Try.ntmps33
  go_wp2_with (first | (go_at_call 34; (with_reducible refine (muldiv_MulDiv.calls k (wrap64 (c1 - c2)) x c3 4 t0 t1 _ H.out).mono ?_); rintro e w' ⟨rfl, hb'⟩; have HB1 := Aside0.mk hb'; clear hb'))
  go_ret
  exact ⟨rfl, HB1.out⟩
set_option maxHeartbeats 4000000 in
set_option maxRecDepth 100000 in
theorem deprec_straight.calls (c0 c1 c2 c3 c4 c5 : Int) (A : Option Addr) (n c : Nat) (w : World) :
    Calls Try.prog 22 #[.agg #[.int .i64 c0, .int .i64 c1, .int .i64 c2, .int .i64 c3, .int .i64 c4, .int .i64 c5, .slice A n c]] w fun e w' => e = .returned (.func (.func 35) #[] #[.pointer (some ⟨w.heap.size + 1, 0, none⟩)]) ∧ PlanAt w' w.heap.size c0 c1 c2 c3 c4 c5 (.slice A n c) ∧ w'.heap[w.heap.size + 1]? = some (.cells #[.func (.func 33) #[] #[.pointer (some ⟨w.heap.size, 0, none⟩)]] 46 (0, 0)) ∧ Below w.heap.size w w' ∧ w.heap.size + 1 < w'.heap.size := by
  go_enter Try.func22, Try.ntmps22
  go_wp2
  go_ret
  refine ⟨rfl, blk_alloc (blk_new w _) _, ?_, ((Below.refl _ _).alloc (Nat.le_refl _) _).alloc (by simp) _, by simp⟩; have h2 := blk_new (w.alloc (.cells #[.int .i64 c0, .int .i64 c1, .int .i64 c2, .int .i64 c3, .int .i64 c4, .int .i64 c5, .slice A n c] 26)) (.cells #[.func (.func 33) #[] #[.pointer (some ⟨w.heap.size, 0, none⟩)]] 46)
  simpa using h2
theorem st_keep {w W w' : World} {g g2 : Nat} {c0 c1 c2 c3 c4 c5 : Int} {sv v : Value} (hb : Below W.heap.size W w') (h : W.cell? ⟨g2, 0, none⟩ = some v ∧ PlanAt W g c0 c1 c2 c3 c4 c5 sv ∧ Below w.heap.size w W) : w'.cell? ⟨g2, 0, none⟩ = some v ∧ PlanAt w' g c0 c1 c2 c3 c4 c5 sv ∧ Below w.heap.size w w' :=
  ⟨pw_cell_below hb h.1, blk_below h.2.1 hb, below_then h.2.2 h.2.2.size hb⟩
theorem st_plan {w W : World} {g g2 : Nat} {c0 c1 c2 c3 c4 c5 : Int} {sv v : Value} (h : W.cell? ⟨g2, 0, none⟩ = some v ∧ PlanAt W g c0 c1 c2 c3 c4 c5 sv ∧ Below w.heap.size w W) : Aside0 (PlanAt W g c0 c1 c2 c3 c4 c5 sv) := ⟨h.2.1⟩
set_option maxHeartbeats 4000000 in
set_option maxRecDepth 100000 in
theorem deprec_straight_2.calls (k : Nat) (g g2 : Nat) (c0 c1 c2 c3 c4 c5 : Int) (sv : Value) (x t : Int) (w : World) (hb : Aside0 (PlanAt w g c0 c1 c2 c3 c4 c5 sv)) (hb2 : Aside0 (w.heap[g2]? = some (.cells #[.func (.func 33) #[] #[.pointer (some ⟨g, 0, none⟩)]] 46 (0, 0)))) (h : deprec_straight_2.f k c1 c2 c3 x = some t) :
    Calls Try.prog 35 #[.int .i64 x, .pointer (some ⟨g2, 0, none⟩)] w fun e w' => e = .returned (.int .i64 t) ∧ Below w.heap.size w w' := by
  obtain ⟨t0, h0, h1⟩ := Option.bind_eq_some_iff.mp h; obtain ⟨t1, h1', h2⟩ := Option.bind_eq_some_iff.mp h1; injection h2 with h2
  subst h2; have H0 := Aside0.mk h0; have H1 : Aside0 (deprec_straight_1.f k c1 c2 c3 (IntKind.i64.wrap (x - 1)) = some t1) := ⟨by rw [i64_w]; exact h1'⟩; clear h h0 h1 h1'; have hc : w.cell? ⟨g2, 0, none⟩ = some (.func (.func 33) #[] #[.pointer (some ⟨g, 0, none⟩)]) := (blk_cell hb2.out 0).trans rfl; go_enter Try.func35, Try.ntmps35
  go_wp2
  have HW : Aside0 (PlanAt w g c0 c1 c2 c3 c4 c5 sv) := hb
  go_region_held3 (fun w' => w'.cell? ⟨g2, 0, none⟩ = some (.func (.func 33) #[] #[.pointer (some ⟨g, 0, none⟩)]) ∧ PlanAt w' g c0 c1 c2 c3 c4 c5 sv ∧ Below w.heap.size w w') (first | exact ⟨hc, blk_drew hb.out, below_drew (Below.refl _ _)⟩ | exact st_keep hb' (by assumption))
    (first
      | (go_at_call_of 33 (Value.int .i64 x); (with_reducible refine (deprec_straight_1.calls k g c0 c1 c2 c3 c4 c5 sv x t0 _ (st_plan (by assumption)) H0.out).mono ?_); rintro e w' ⟨rfl, hb'⟩)
      | (go_at_call 33; (with_reducible refine (deprec_straight_1.calls k g c0 c1 c2 c3 c4 c5 sv (IntKind.i64.wrap (x - 1)) t1 _ (st_plan (by assumption)) H1.out).mono ?_); rintro e w' ⟨rfl, hb'⟩))
  go_wp2
  rename_i hH
  go_ret
  exact ⟨by simp [i64_w], hH.2.2⟩
def deprec_declining_1.f (k : Nat) (c2 c3 c4 c5 : Int) (book x : Int) : Option Int :=
  if wrap64 (wrap64 (c3 - x) + 1) > 1 then (frac_Apply.f k c4 c5 book 1).bind fun t => some (mn (wrap64 (book - c2)) (mx t.1 (wrap64 (Int.tdiv (wrap64 (book - c2)) (wrap64 (wrap64 (c3 - x) + 1)))))) else some (wrap64 (book - c2))
set_option maxHeartbeats 4000000 in
set_option maxRecDepth 100000 in
theorem deprec_declining.calls (c0 c1 c2 c3 c4 c5 : Int) (A : Option Addr) (n c : Nat) (w : World) :
    Calls Try.prog 23 #[.agg #[.int .i64 c0, .int .i64 c1, .int .i64 c2, .int .i64 c3, .int .i64 c4, .int .i64 c5, .slice A n c]] w fun e w' => e = .returned (.func (.func 36) #[] #[.pointer (some ⟨w.heap.size + 1, 0, none⟩), .pointer (some ⟨w.heap.size, 0, none⟩)]) ∧ PlanAt w' w.heap.size c0 c1 c2 c3 c4 c5 (.slice A n c) ∧ w'.heap[w.heap.size + 1]? = some (.cells #[.int .i64 c1] 3 (0, 0)) ∧ Below w.heap.size w w' ∧ w.heap.size + 1 < w'.heap.size := by
  go_enter Try.func23, Try.ntmps23
  go_wp2
  go_ret
  refine ⟨rfl, blk_alloc (blk_new w _) _, ?_, ((Below.refl _ _).alloc (Nat.le_refl _) _).alloc (by simp) _, by simp⟩; have h2 := blk_new (w.alloc (.cells #[.int .i64 c0, .int .i64 c1, .int .i64 c2, .int .i64 c3, .int .i64 c4, .int .i64 c5, .slice A n c] 26)) (.cells #[.int .i64 c1] 3)
  simpa using h2
set_option maxHeartbeats 4000000 in
set_option maxRecDepth 100000 in
theorem deprec_declining_1.calls (k : Nat) (g g2 : Nat) (c0 c1 c2 c3 c4 c5 : Int) (sv : Value) (book x t : Int) (w : World) (hb : Aside0 (PlanAt w g c0 c1 c2 c3 c4 c5 sv)) (hb2 : Aside0 (w.heap[g2]? = some (.cells #[.int .i64 book] 3 (0, 0)))) (h : deprec_declining_1.f k c2 c3 c4 c5 book x = some t) :
    Calls Try.prog 36 #[.int .i64 x, .pointer (some ⟨g2, 0, none⟩), .pointer (some ⟨g, 0, none⟩)] w fun e w' => e = .returned (.int .i64 t) ∧ w'.heap[g2]? = some (.cells #[.int .i64 (wrap64 (book - t))] 3 (0, 0)) ∧ ∃ w1, Below w.heap.size w w1 ∧ w' = w1.setCell ⟨g2, 0, none⟩ (.int .i64 (wrap64 (book - t))) := by
  have hc0 : w.cell? ⟨g2, 0, none⟩ = some (.int .i64 book) := (blk_cell hb2.out 0).trans rfl; have hf0 := blk_frozen hb2.out 0; have hc2 : w.cell? ⟨g, 2, none⟩ = some (.int .i64 c2) := (blk_cell hb.out 2).trans rfl; have hc3 : w.cell? ⟨g, 3, none⟩ = some (.int .i64 c3) := (blk_cell hb.out 3).trans rfl; have hc4 : w.cell? ⟨g, 4, none⟩ = some (.int .i64 c4) := (blk_cell hb.out 4).trans rfl; have hc5 : w.cell? ⟨g, 5, none⟩ = some (.int .i64 c5) := (blk_cell hb.out 5).trans rfl
  unfold deprec_declining_1.f at h
  by_cases c1 : wrap64 (wrap64 (c3 - x) + 1) > 1
  · rw [if_pos c1] at h; have hne : ¬ wrap64 (wrap64 (c3 - x) + 1) = 0 := by omega
    obtain ⟨⟨t0, t1⟩, h0, h1⟩ := Option.bind_eq_some_iff.mp h; injection h1 with h1
    obtain ⟨j1, hj1⟩ : ∃ j_ : Int, mx t0 (wrap64 (Int.tdiv (wrap64 (book - c2)) (wrap64 (wrap64 (c3 - x) + 1)))) = j_ := ⟨_, rfl⟩; replace h1 : mn (wrap64 (book - c2)) j1 = t := by rw [← hj1]; exact h1
    have hj1_ : (if t0 < (wrap64 (Int.tdiv (wrap64 (book - c2)) (wrap64 (wrap64 (c3 - x) + 1)))) then (wrap64 (Int.tdiv (wrap64 (book - c2)) (wrap64 (wrap64 (c3 - x) + 1)))) else t0) = j1 := hj1; have hj2_ : (if j1 < (wrap64 (book - c2)) then j1 else (wrap64 (book - c2))) = t := h1; have H := Aside0.mk h0; clear h h0 h1 hj1; go_enter Try.func36, Try.ntmps36
    go_wp2
    go_quiet (fail)
    go_wp2_with (first | (go_at_call 37; (with_reducible refine (frac_Apply.calls k c4 c5 book 1 t0 t1 _ H.out).mono ?_); rintro e w' ⟨rfl, hb'⟩; have HB1 := Aside0.mk hb'; have hB2 := Aside0.mk (blk_below (blk_drewN hb2.out nq) hb'); have hq0 : w'.cell? ⟨g2, 0, none⟩ = some (.int .i64 book) := (blk_cell hB2.out 0).trans rfl; have hqf := blk_frozen hB2.out 0; clear hb'))
    go_ret
    exact ⟨rfl, blk_set hB2.out 0 _, w', below_then (pw_below_drewN (Below.refl _ _) nq) (Nat.le_refl _) HB1.out, rfl⟩
  · rw [if_neg c1] at h; injection h with h
    subst h; have c1b : decide (1 < wrap64 (wrap64 (c3 - x) + 1)) = false := decide_eq_false c1; clear c1; go_enter Try.func36, Try.ntmps36
    go_wp2
    go_quiet (fail)
    have hB2 := Aside0.mk (blk_drewN hb2.out nq)
    go_wp2
    go_ret
    exact ⟨rfl, blk_set hB2.out 0 _, _, pw_below_drewN (Below.refl _ _) nq, rfl⟩
def amountsL {σ : Type} (step : σ → Int → Option (Int × σ)) : Nat → Nat → σ → List Int → Option (List Int)
  | 0, _, _, l => some l
  | n + 1, j, s, l => if l.length < 17592186044416 then (step s ((j : Int) + 1)).bind fun t => amountsL step n (j + 1) t.2 (l ++ [t.1]) else none
set_option maxHeartbeats 4000000 in
set_option maxRecDepth 100000 in
theorem deprec_amounts.calls {σ : Type} (step : σ → Int → Option (Int × σ)) (I : σ → World → Prop) (K : Nat) (fn : Func) (cap : Array Value) (g B0 : Nat) (W0 w : World) (c0 c1 c2 c3 c4 c5 : Int) (A : Option Addr) (n c : Nat) (s : σ) (r : List Int)
    (hf : Try.prog.funcs[K]? = some fn) (hname : (fn.name == "runtime.NumGoroutine") = false) (hbody : fn.body.isSome = true) (hc3 : c3 ≤ 1000000)
    (hB0 : B0 ≤ w.heap.size) (hB : Below B0 W0 w) (hg : g < w.heap.size) (hI : I s w)
    (hkeep : ∀ s W W', I s W → (∀ i, i < w.heap.size → W'.heap[i]? = W.heap[i]?) → I s W')
    (hstep : ∀ s x t s' W, step s x = some (t, s') → I s W → w.heap.size ≤ W.heap.size → Calls Try.prog K (#[.int .i64 x] ++ cap) W fun e W' => e = .returned (.int .i64 t) ∧ I s' W' ∧ KeepBut W W' g none ∧ (Below B0 W0 W → Below B0 W0 W'))
    (h : amountsL step c3.toNat 0 s [] = some r) :
    Calls Try.prog 21 #[.agg #[.int .i64 c0, .int .i64 c1, .int .i64 c2, .int .i64 c3, .int .i64 c4, .int .i64 c5, .slice A n c], .func (.func K) #[] cap] w fun e w' => ∃ v0_ : Value, e = .returned v0_ ∧ Kd.R (Kd.int .i64) 3 w' B0 (fun k => w.heap.size ≤ k) v0_ r ∧ Below B0 W0 w' := by
  have H := Aside0.mk h; have HI := Aside0.mk (hkeep s w (w.alloc (.cells #[.int .i64 c0, .int .i64 c1, .int .i64 c2, .int .i64 c3, .int .i64 c4, .int .i64 c5, .slice A n c] 26)) hI (fun i hi => Below.heap_alloc w _ i hi)); have HB := Aside0.mk (hB.alloc hB0 (.cells #[.int .i64 c0, .int .i64 c1, .int .i64 c2, .int .i64 c3, .int .i64 c4, .int .i64 c5, .slice A n c] 26)); have HS := Aside0.mk hstep; have HK := Aside0.mk hkeep; have HG := Aside0.mk hg; have H0 := Aside0.mk hB0; have HF := Aside0.mk hf; have HN := Aside0.mk hname; have HY := Aside0.mk hbody; clear h hI hkeep hstep hg hB hB0 hf hname hbody; go_enter Try.func21, Try.ntmps21
  go_wp2
  go_loopg [4, 8] c3.toNat (fun kq v4 v8 w' => ∃ (j : Nat) (s1 : σ) (l : List Int), v8 = .int .i64 (j : Int) ∧ Aside0 (j + kq = c3.toNat) ∧ Aside0 (amountsL step kq j s1 l = some r) ∧ Aside0 (Kd.R (Kd.int .i64) 3 w' B0 (fun k => w.heap.size ≤ k) v4 l) ∧ Aside0 (I s1 w') ∧ Aside0 (Below B0 W0 w') ∧ Aside0 (w.heap.size ≤ w'.heap.size))
  case atStart => exact ⟨0, s, [], rfl, ⟨by omega⟩, H, ⟨Kd.R_nil _ _ _ _ _⟩, HI, HB, ⟨by simp⟩⟩
  case round =>
    clear H HI HB; obtain ⟨j, s1, l, rfl, HJ, H, HO, HI, HB, HZ⟩ := hrel
    cases gk with
    | zero =>
      have hj : ¬ (j : Int) < c3 := by have := HJ.out; omega
      have hjb : decide ((j : Int) < c3) = false := decide_eq_false hj; clear hj; have H1 := H.out; simp only [amountsL, Option.some.injEq] at H1; subst H1
      go_wp2
      go_ret
      exact ⟨_, rfl, HO.out, HB.out⟩
    | succ k1 =>
      have hj : (j : Int) < c3 := by have := HJ.out; omega
      have hj2 : (j : Int) + 1 ≤ 1000000 := by omega
      have hjb : decide ((j : Int) < c3) = true := decide_eq_true hj; have H1 := H.out; clear H; simp only [amountsL] at H1
      by_cases cl : l.length < 17592186044416
      · rw [if_pos cl] at H1; obtain ⟨⟨t, s2⟩, h2, H2⟩ := Option.bind_eq_some_iff.mp H1; have HT := Aside0.mk h2; have H3 := Aside0.mk H2; have HL := Aside0.mk cl; clear H1 h2 H2 cl hj
        go_wp2_with (first
          | (refine goesFL_ (some 15) rfl rfl HF.out HN.out HY.out (#[.int .i64 ((j : Int) + 1)] ++ cap) rfl (by rfl) (by (try simp only [List.map_toArray, List.map_cons, List.map_nil]); first | done | rfl) ?_
             (with_reducible refine (HS.out s1 ((j : Int) + 1) t s2 _ HT.out HI.out HZ.out).mono ?_); rintro e W1 ⟨rfl, hi1, hk1, hb1⟩; refine ⟨_, rfl, ?_⟩; have HI1 := Aside0.mk hi1; have HB1 := Aside0.mk (hb1 HB.out); have HO1 := Aside0.mk (Kd.R_keep HO.out hk1 (fun k hk => by have := HG.out; omega)); have HZ1 := Aside0.mk (Nat.le_trans HZ.out hk1.1); clear hi1 hk1 hb1)
          | ((with_reducible refine gate_builtin (b := .append) (xs := #[.tmp 11, .tmp 16]) rfl ?_); at_builtin; refine Kd.R_append (Kd.int .i64) (w0 := W0) B0 rfl (.tmp 11) (.tmp 16) 24 3 (.int .i64 0) 8 rfl Try.underlying24 info3 rfl (by decide) (by omega) u4 l t [.int .i64 t] (fun k => w.heap.size ≤ k) (fun _ => False) rfl rfl ?aP (fun _ hk => hk.elim) ?aF ?aO ?aB ?aS ?aL ?_
             (case aP => exact rfl); (case aF => exact fun k hk => Nat.le_trans HZ1.out hk); (case aO => exact HO1.out); (case aB => exact HB1.out); (case aS => exact Nat.le_trans H0.out HZ1.out); (case aL => have := HL.out; omega); intro v2 w4 ho hb hg hat; have HO2 := Aside0.mk ho; have HB2 := Aside0.mk hb; have HI2 := Aside0.mk (HK.out s2 _ w4 HI1.out (fun i hi => hg.block i (Nat.lt_of_lt_of_le hi HZ1.out) (fun e => by have := HO1.out.1 i e.symm; omega))); have HZ2 := Aside0.mk (Nat.le_trans HZ1.out hg.size); clear ho hb hg hat))
        go_roundg k1
        case measure => omega
        case rel => exact ⟨j + 1, s2, l ++ [t], by go_num, ⟨by have := HJ.out; omega⟩, H3, HO2, HI2, HB2, HZ2⟩
      · rw [if_neg cl] at H1
        cases H1
theorem amountsL.le {σ : Type} {f f' : σ → Int → Option (Int × σ)} (h : ∀ s x, LeO (f s x) (f' s x)) : ∀ n j s l, LeO (amountsL f n j s l) (amountsL f' n j s l)
  | 0, _, _, _ => LeO.refl _
  | n + 1, j, s, l => by
    unfold amountsL
    exact LeO.ite (LeO.bind (h _ _) (fun t => amountsL.le h n _ _ _)) (LeO.none _)
def deprec_Schedule.stepS (k : Nat) (a1 a2 a3 : Int) : Unit → Int → Option (Int × Unit) := fun _ x => (deprec_straight_2.f k a1 a2 a3 x).bind fun t => some (t, ())
def deprec_Schedule.stepD (k : Nat) (a2 a3 a4 a5 : Int) : Int → Int → Option (Int × Int) := fun b x => (deprec_declining_1.f k a2 a3 a4 a5 b x).bind fun t => some (t, wrap64 (b - t))
def deprec_Schedule.f (k : Nat) (a0_0 : Int) (a0_1 : Int) (a0_2 : Int) (a0_3 : Int) (a0_4 : Int) (a0_5 : Int) (l0_6 : List Int) : Option (List Int × Int) :=
  (deprec_Check.f k a0_0 a0_1 a0_2 a0_3 a0_4 a0_5 l0_6).bind fun e => if e = 0 then (if a0_3 ≤ 1000000 then (if a0_0 = 1 then ((amountsL (deprec_Schedule.stepS k a0_1 a0_2 a0_3) a0_3.toNat 0 () []).bind fun l => some (l, 0)) else (if a0_0 = 2 then ((amountsL (deprec_Schedule.stepD k a0_2 a0_3 a0_4 a0_5) a0_3.toNat 0 a0_1 []).bind fun l => some (l, 0)) else (if a0_0 = 3 then ((deprec_digits.f k a0_3).bind fun d => (deprec_weighted.f k (wrap64 (a0_1 - a0_2)) d).bind fun l => some (l, 0)) else ((deprec_weighted.f k (wrap64 (a0_1 - a0_2)) l0_6).bind fun l => some (l, 0))))) else none) else (some (([] : List Int), e))
theorem deprec_straight_1.mono (k : Nat) (a b c x : Int) : LeO (deprec_straight_1.f k a b c x) (deprec_straight_1.f (k + 1) a b c x) := LeO.bind (muldiv_MulDiv.mono _ _ _ _ _) (fun _ => LeO.refl _)
theorem deprec_straight_2.mono (k : Nat) (a b c x : Int) : LeO (deprec_straight_2.f k a b c x) (deprec_straight_2.f (k + 1) a b c x) := LeO.bind (deprec_straight_1.mono _ _ _ _ _) (fun _ => LeO.bind (deprec_straight_1.mono _ _ _ _ _) (fun _ => LeO.refl _))
theorem deprec_declining_1.mono (k : Nat) (a b c d x y : Int) : LeO (deprec_declining_1.f k a b c d x y) (deprec_declining_1.f (k + 1) a b c d x y) := LeO.ite (LeO.bind (frac_Apply.mono _ _ _ _ _) (fun _ => LeO.refl _)) (LeO.refl _)
theorem deprec_Schedule.mono : ∀ a0 a1 a2 a3 a4 a5 a6 k, LeO (deprec_Schedule.f k a0 a1 a2 a3 a4 a5 a6) (deprec_Schedule.f (k + 1) a0 a1 a2 a3 a4 a5 a6) := by
  intro a0 a1 a2 a3 a4 a5 a6 k
  unfold deprec_Schedule.f
  refine LeO.bind (deprec_Check.mono _ _ _ _ _ _ _ _) (fun e => LeO.ite (LeO.ite (LeO.ite (LeO.bind (amountsL.le (fun s x => LeO.bind (deprec_straight_2.mono _ _ _ _ _) (fun _ => LeO.refl _)) _ _ _ _) (fun _ => LeO.refl _)) (LeO.ite (LeO.bind (amountsL.le (fun s x => LeO.bind (deprec_declining_1.mono _ _ _ _ _ _ _) (fun _ => LeO.refl _)) _ _ _ _) (fun _ => LeO.refl _)) (LeO.ite (LeO.bind (deprec_digits.mono _ _) (fun _ => LeO.bind (deprec_weighted.mono _ _ _) (fun _ => LeO.refl _))) (LeO.bind (deprec_weighted.mono _ _ _) (fun _ => LeO.refl _))))) (LeO.none _)) (LeO.refl _))
theorem plan_cells {w : World} {g : Nat} {c0 c1 c2 c3 c4 c5 : Int} {sv : Value} (h : PlanAt w g c0 c1 c2 c3 c4 c5 sv) : w.cell? ⟨g, 0, none⟩ = some (.int .i64 c0) ∧ w.cell? ⟨g, 1, none⟩ = some (.int .i64 c1) ∧ w.cell? ⟨g, 2, none⟩ = some (.int .i64 c2) ∧ w.cell? ⟨g, 3, none⟩ = some (.int .i64 c3) ∧ w.cell? ⟨g, 4, none⟩ = some (.int .i64 c4) ∧ w.cell? ⟨g, 5, none⟩ = some (.int .i64 c5) ∧ w.cell? ⟨g, 6, none⟩ = some sv :=
  ⟨(blk_cell h 0).trans rfl, (blk_cell h 1).trans rfl, (blk_cell h 2).trans rfl, (blk_cell h 3).trans rfl, (blk_cell h 4).trans rfl, (blk_cell h 5).trans rfl, (blk_cell h 6).trans rfl⟩
theorem amountsS (k g B0 : Nat) (W0 W2 : World) (c0 c1 c2 c3 c4 c5 : Int) (A : Option Addr) (n c : Nat) (sv : Value) (r : List Int) (hp : PlanAt W2 g c0 c1 c2 c3 c4 c5 sv) (hq : W2.heap[g + 1]? = some (.cells #[.func (.func 33) #[] #[.pointer (some ⟨g, 0, none⟩)]] 46 (0, 0))) (hB : Below B0 W0 W2) (hB0 : B0 ≤ W2.heap.size) (hz : g + 1 < W2.heap.size) (hc3 : c3 ≤ 1000000) (h : amountsL (deprec_Schedule.stepS k c1 c2 c3) c3.toNat 0 () [] = some r) :
    Calls Try.prog 21 #[.agg #[.int .i64 c0, .int .i64 c1, .int .i64 c2, .int .i64 c3, .int .i64 c4, .int .i64 c5, .slice A n c], .func (.func 35) #[] #[.pointer (some ⟨g + 1, 0, none⟩)]] W2 fun e w' => ∃ v0_ : Value, e = .returned v0_ ∧ Kd.R (Kd.int .i64) 3 w' B0 (fun k => W2.heap.size ≤ k) v0_ r ∧ Below B0 W0 w' := by
  refine deprec_amounts.calls (deprec_Schedule.stepS k c1 c2 c3) (fun _ W => PlanAt W g c0 c1 c2 c3 c4 c5 sv ∧ W.heap[g + 1]? = some (.cells #[.func (.func 33) #[] #[.pointer (some ⟨g, 0, none⟩)]] 46 (0, 0))) 35 _ #[.pointer (some ⟨g + 1, 0, none⟩)] g B0 W0 W2 c0 c1 c2 c3 c4 c5 A n c () r Try.func35 (by kernel_rfl) rfl hc3 hB0 hB (by omega) ⟨hp, hq⟩ ?_ ?_ h
  · intro _ W W' hI hh; exact ⟨(hh g (by omega)).trans hI.1, (hh (g + 1) hz).trans hI.2⟩
  · intro _ x t _ W hs hI hW; obtain ⟨t', h1, h2⟩ := Option.bind_eq_some_iff.mp hs; injection h2 with h2
    injection h2 with h2 _
    subst h2; refine (deprec_straight_2.calls k g (g + 1) c0 c1 c2 c3 c4 c5 sv x t' W ⟨hI.1⟩ ⟨hI.2⟩ h1).mono ?_; rintro e W' ⟨rfl, hb⟩; exact ⟨rfl, ⟨blk_below hI.1 hb, blk_below hI.2 hb⟩, KeepBut.of_below hb _ _, fun h0 => below_then h0 (Nat.le_trans hB0 hW) hb⟩
theorem amountsD (k g B0 : Nat) (W0 W2 : World) (c0 c1 c2 c3 c4 c5 : Int) (A : Option Addr) (n c : Nat) (sv : Value) (r : List Int) (hp : PlanAt W2 g c0 c1 c2 c3 c4 c5 sv) (hq : W2.heap[g + 1]? = some (.cells #[.int .i64 c1] 3 (0, 0))) (hB : Below B0 W0 W2) (hB0 : B0 ≤ W2.heap.size) (hBg : B0 ≤ g) (hz : g + 1 < W2.heap.size) (hc3 : c3 ≤ 1000000) (h : amountsL (deprec_Schedule.stepD k c2 c3 c4 c5) c3.toNat 0 c1 [] = some r) :
    Calls Try.prog 21 #[.agg #[.int .i64 c0, .int .i64 c1, .int .i64 c2, .int .i64 c3, .int .i64 c4, .int .i64 c5, .slice A n c], .func (.func 36) #[] #[.pointer (some ⟨g + 1, 0, none⟩), .pointer (some ⟨g, 0, none⟩)]] W2 fun e w' => ∃ v0_ : Value, e = .returned v0_ ∧ Kd.R (Kd.int .i64) 3 w' B0 (fun k => W2.heap.size ≤ k) v0_ r ∧ Below B0 W0 w' := by
  refine deprec_amounts.calls (deprec_Schedule.stepD k c2 c3 c4 c5) (fun b W => PlanAt W g c0 c1 c2 c3 c4 c5 sv ∧ W.heap[g + 1]? = some (.cells #[.int .i64 b] 3 (0, 0))) 36 _ #[.pointer (some ⟨g + 1, 0, none⟩), .pointer (some ⟨g, 0, none⟩)] (g + 1) B0 W0 W2 c0 c1 c2 c3 c4 c5 A n c c1 r Try.func36 (by kernel_rfl) rfl hc3 hB0 hB hz ⟨hp, hq⟩ ?_ ?_ h
  · intro _ W W' hI hh; exact ⟨(hh g (by omega)).trans hI.1, (hh (g + 1) hz).trans hI.2⟩
  · intro b x t b' W hs hI hW; obtain ⟨t', h1, h2⟩ := Option.bind_eq_some_iff.mp hs; injection h2 with h2
    injection h2 with h2 h3
    subst h2; subst h3; refine (deprec_declining_1.calls k g (g + 1) c0 c1 c2 c3 c4 c5 sv b x t' W ⟨hI.1⟩ ⟨hI.2⟩ h1).mono ?_; rintro e W' ⟨rfl, hn, W1, hb, rfl⟩; refine ⟨rfl, ⟨blk_far (blk_below hI.1 hb) (by simp) _, hn⟩, (KeepBut.of_below hb _ _).set_ _ _, fun h0 => (below_then h0 (Nat.le_trans hB0 hW) hb).setCell (by simp; omega) _⟩
theorem plan_S {w W' : World} {g : Nat} {c0 c1 c2 c3 c4 c5 : Int} {sv : Value} (h : PlanAt W' g c0 c1 c2 c3 c4 c5 sv) (hb : Below w.heap.size w W') : W'.cell? ⟨g, 0, none⟩ = some (.int .i64 c0) ∧ W'.cell? ⟨g, 1, none⟩ = some (.int .i64 c1) ∧ W'.cell? ⟨g, 2, none⟩ = some (.int .i64 c2) ∧ W'.cell? ⟨g, 3, none⟩ = some (.int .i64 c3) ∧ W'.cell? ⟨g, 4, none⟩ = some (.int .i64 c4) ∧ W'.cell? ⟨g, 5, none⟩ = some (.int .i64 c5) ∧ W'.cell? ⟨g, 6, none⟩ = some sv ∧ PlanAt W' g c0 c1 c2 c3 c4 c5 sv ∧ Below w.heap.size w W' :=
  ⟨(blk_cell h 0).trans rfl, (blk_cell h 1).trans rfl, (blk_cell h 2).trans rfl, (blk_cell h 3).trans rfl, (blk_cell h 4).trans rfl, (blk_cell h 5).trans rfl, (blk_cell h 6).trans rfl, h, hb⟩
theorem plan_hS {w W' : World} {g : Nat} {c0 c1 c2 c3 c4 c5 : Int} {sv v0 v1 v2 v3 v4 v5 v6 : Value} (h : W'.cell? ⟨g, 0, none⟩ = some v0 ∧ W'.cell? ⟨g, 1, none⟩ = some v1 ∧ W'.cell? ⟨g, 2, none⟩ = some v2 ∧ W'.cell? ⟨g, 3, none⟩ = some v3 ∧ W'.cell? ⟨g, 4, none⟩ = some v4 ∧ W'.cell? ⟨g, 5, none⟩ = some v5 ∧ W'.cell? ⟨g, 6, none⟩ = some v6 ∧ PlanAt W' g c0 c1 c2 c3 c4 c5 sv ∧ Below w.heap.size w W') : PlanAt W' g c0 c1 c2 c3 c4 c5 sv ∧ Below w.heap.size w W' := h.2.2.2.2.2.2.2
set_option maxHeartbeats 8000000 in
set_option maxRecDepth 100000 in
theorem deprec_Schedule.calls (k : Nat) (a0_0 : Int) (a0_1 : Int) (a0_2 : Int) (a0_3 : Int) (a0_4 : Int) (a0_5 : Int) (A0_6 : Option Addr) (c0_6 : Nat) (l0_6 : List Int) (r1 : List Int) (r2 : Int) (w : World) (hr0_6 : Kd.C (Kd.int .i64) w A0_6 l0_6.length l0_6) (hc0_6 : l0_6.length ≤ c0_6) (h : deprec_Schedule.f k a0_0 a0_1 a0_2 a0_3 a0_4 a0_5 l0_6 = some (r1, r2)) :
    Calls Try.prog 12 #[.agg #[.int .i64 a0_0, .int .i64 a0_1, .int .i64 a0_2, .int .i64 a0_3, .int .i64 a0_4, .int .i64 a0_5, .slice A0_6 l0_6.length c0_6]] w fun e w' => ∃ v0_ : Value, e = .returned (.tuple #[v0_, .int .i64 r2]) ∧ Kd.R (Kd.int .i64) 3 w' w.heap.size (fun _ => True) v0_ r1 ∧ Below w.heap.size w w' := by
  have hP0 := blk_new w (.cells #[.int .i64 a0_0, .int .i64 a0_1, .int .i64 a0_2, .int .i64 a0_3, .int .i64 a0_4, .int .i64 a0_5, .slice A0_6 l0_6.length c0_6] 26); have HB0 := Aside0.mk ((Below.refl w.heap.size w).alloc (Nat.le_refl _) (.cells #[.int .i64 a0_0, .int .i64 a0_1, .int .i64 a0_2, .int .i64 a0_3, .int .i64 a0_4, .int .i64 a0_5, .slice A0_6 l0_6.length c0_6] 26)); have HR0 := Aside0.mk (Kd.C_alloc hr0_6 (.cells #[.int .i64 a0_0, .int .i64 a0_1, .int .i64 a0_2, .int .i64 a0_3, .int .i64 a0_4, .int .i64 a0_5, .slice A0_6 l0_6.length c0_6] 26)); have HC := Aside0.mk hc0_6; have HS0 : Aside0 (w.heap.size < (w.alloc (.cells #[.int .i64 a0_0, .int .i64 a0_1, .int .i64 a0_2, .int .i64 a0_3, .int .i64 a0_4, .int .i64 a0_5, .slice A0_6 l0_6.length c0_6] 26)).heap.size) := ⟨by simp⟩; have HP0 : Aside0 (PlanAt (w.alloc (.cells #[.int .i64 a0_0, .int .i64 a0_1, .int .i64 a0_2, .int .i64 a0_3, .int .i64 a0_4, .int .i64 a0_5, .slice A0_6 l0_6.length c0_6] 26)) w.heap.size a0_0 a0_1 a0_2 a0_3 a0_4 a0_5 (.slice A0_6 l0_6.length c0_6)) := ⟨hP0⟩; clear hP0 hr0_6 hc0_6; obtain ⟨e0, hE, h1⟩ := Option.bind_eq_some_iff.mp h; have HE := Aside0.mk hE; clear h hE
  by_cases ce : e0 = 0
  · rw [if_pos ce] at h1; subst ce
    by_cases c1 : a0_3 ≤ 1000000
    · rw [if_pos c1] at h1
      by_cases m1 : a0_0 = 1
      · rw [if_pos m1] at h1; have m1b : (a0_0 == 1) = true := beq_iff_eq.mpr m1; clear m1; obtain ⟨l, hL, h2⟩ := Option.bind_eq_some_iff.mp h1; injection h2 with h2
        injection h2 with e1 e2
        subst e1; subst e2; have HL := Aside0.mk hL; have C1 := Aside0.mk c1; clear hL h1 c1; go_enter Try.func12, Try.ntmps12
        go_wp2_with (first | (go_at_call 10; (with_reducible refine (deprec_Check.calls k a0_0 a0_1 a0_2 a0_3 a0_4 a0_5 A0_6 c0_6 l0_6 0 _ HR0.out HC.out HE.out).mono ?_); rintro e w1 ⟨rfl, hb'⟩; have HB1 := Aside0.mk (below_then HB0.out (by have := HS0.out; omega) hb'); have HR1 := Aside0.mk (Kd.C_below HR0.out hb'); have HP1 := Aside0.mk (blk_below HP0.out hb'); have HS1 := Aside0.mk (Nat.lt_of_lt_of_le HS0.out hb'.size); obtain ⟨p0, p1, p2, p3, p4, p5, p6⟩ := plan_cells HP1.out; clear hb'))
        go_region_held3 (fun W' => W'.cell? ⟨w.heap.size, 0, none⟩ = some (.int .i64 a0_0) ∧ W'.cell? ⟨w.heap.size, 1, none⟩ = some (.int .i64 a0_1) ∧ W'.cell? ⟨w.heap.size, 2, none⟩ = some (.int .i64 a0_2) ∧ W'.cell? ⟨w.heap.size, 3, none⟩ = some (.int .i64 a0_3) ∧ W'.cell? ⟨w.heap.size, 4, none⟩ = some (.int .i64 a0_4) ∧ W'.cell? ⟨w.heap.size, 5, none⟩ = some (.int .i64 a0_5) ∧ W'.cell? ⟨w.heap.size, 6, none⟩ = some (.slice A0_6 l0_6.length c0_6) ∧ PlanAt W' w.heap.size a0_0 a0_1 a0_2 a0_3 a0_4 a0_5 (.slice A0_6 l0_6.length c0_6) ∧ Below w.heap.size w W')
          (first | exact plan_S HP1.out (below_drew HB1.out) | exact plan_S (blk_below hSW.1 hB3) (below_then hSW.2 hSW.2.size hB3) | exact plan_S (blk_below hSW.1 hb') (below_then hSW.2 hSW.2.size hb'))
          (first
            | (go_at_call 22; (with_reducible refine (deprec_straight.calls a0_0 a0_1 a0_2 a0_3 a0_4 a0_5 A0_6 l0_6.length c0_6 _).mono ?_); rintro e W2 ⟨rfl, hp, hq, hb', hz⟩; have hSW := plan_hS (w := w) (g := w.heap.size) (by assumption))
            | (go_at_call 21; (refine (amountsS k _ _ _ _ a0_0 a0_1 a0_2 a0_3 a0_4 a0_5 A0_6 l0_6.length c0_6 _ l hp hq hb' hb'.size hz C1.out HL.out).mono ?_); rintro e W3 ⟨v3, rfl, hR3, hB3⟩))
        go_wp2
        rename_i hS
        go_ret2
        exact ⟨v3, rfl, Kd.R_lower (Kd.R_mono hR3 (fun _ _ => trivial)) hSW.2.size, (plan_hS hS).2⟩
      · rw [if_neg m1] at h1; have m1b : (a0_0 == 1) = false := beq_eq_false_iff_ne.mpr m1; clear m1
        by_cases m2 : a0_0 = 2
        · rw [if_pos m2] at h1; have m2b : (a0_0 == 2) = true := beq_iff_eq.mpr m2; clear m2; obtain ⟨l, hL, h2⟩ := Option.bind_eq_some_iff.mp h1; injection h2 with h2
          injection h2 with e1 e2
          subst e1; subst e2; have HL := Aside0.mk hL; have C1 := Aside0.mk c1; clear hL h1 c1; go_enter Try.func12, Try.ntmps12
          go_wp2_with (first | (go_at_call 10; (with_reducible refine (deprec_Check.calls k a0_0 a0_1 a0_2 a0_3 a0_4 a0_5 A0_6 c0_6 l0_6 0 _ HR0.out HC.out HE.out).mono ?_); rintro e w1 ⟨rfl, hb'⟩; have HB1 := Aside0.mk (below_then HB0.out (by have := HS0.out; omega) hb'); have HR1 := Aside0.mk (Kd.C_below HR0.out hb'); have HP1 := Aside0.mk (blk_below HP0.out hb'); have HS1 := Aside0.mk (Nat.lt_of_lt_of_le HS0.out hb'.size); obtain ⟨p0, p1, p2, p3, p4, p5, p6⟩ := plan_cells HP1.out; clear hb'))
          go_region_held3 (fun W' => W'.cell? ⟨w.heap.size, 0, none⟩ = some (.int .i64 a0_0) ∧ W'.cell? ⟨w.heap.size, 1, none⟩ = some (.int .i64 a0_1) ∧ W'.cell? ⟨w.heap.size, 2, none⟩ = some (.int .i64 a0_2) ∧ W'.cell? ⟨w.heap.size, 3, none⟩ = some (.int .i64 a0_3) ∧ W'.cell? ⟨w.heap.size, 4, none⟩ = some (.int .i64 a0_4) ∧ W'.cell? ⟨w.heap.size, 5, none⟩ = some (.int .i64 a0_5) ∧ W'.cell? ⟨w.heap.size, 6, none⟩ = some (.slice A0_6 l0_6.length c0_6) ∧ PlanAt W' w.heap.size a0_0 a0_1 a0_2 a0_3 a0_4 a0_5 (.slice A0_6 l0_6.length c0_6) ∧ Below w.heap.size w W')
            (first | exact plan_S HP1.out (below_drew HB1.out) | exact plan_S (blk_below hSW.1 hB3) (below_then hSW.2 hSW.2.size hB3) | exact plan_S (blk_below hSW.1 hb') (below_then hSW.2 hSW.2.size hb'))
            (first
              | (go_at_call 23; (with_reducible refine (deprec_declining.calls a0_0 a0_1 a0_2 a0_3 a0_4 a0_5 A0_6 l0_6.length c0_6 _).mono ?_); rintro e W2 ⟨rfl, hp, hq, hb', hz⟩; have hSW := plan_hS (w := w) (g := w.heap.size) (by assumption))
              | (go_at_call 21; (refine (amountsD k _ _ _ _ a0_0 a0_1 a0_2 a0_3 a0_4 a0_5 A0_6 l0_6.length c0_6 _ l hp hq hb' hb'.size (Nat.le_refl _) hz C1.out HL.out).mono ?_); rintro e W3 ⟨v3, rfl, hR3, hB3⟩))
          go_wp2
          rename_i hS
          go_ret2
          exact ⟨v3, rfl, Kd.R_lower (Kd.R_mono hR3 (fun _ _ => trivial)) hSW.2.size, (plan_hS hS).2⟩
        · rw [if_neg m2] at h1; have m2b : (a0_0 == 2) = false := beq_eq_false_iff_ne.mpr m2; clear m2
          by_cases m3 : a0_0 = 3
          · rw [if_pos m3] at h1; have m3b : (a0_0 == 3) = true := beq_iff_eq.mpr m3; clear m3; obtain ⟨d, hD, h2⟩ := Option.bind_eq_some_iff.mp h1; obtain ⟨l, hL, h3⟩ := Option.bind_eq_some_iff.mp h2; injection h3 with h3
            injection h3 with e1 e2
            subst e1; subst e2; have HD := Aside0.mk hD; have HL : Aside0 (deprec_weighted.f k (IntKind.i64.wrap (a0_1 - a0_2)) d = some l) := ⟨by rw [i64_w]; exact hL⟩; clear hL hD h1 h2 c1; go_enter Try.func12, Try.ntmps12
            go_wp2_with (first | (go_at_call 10; (with_reducible refine (deprec_Check.calls k a0_0 a0_1 a0_2 a0_3 a0_4 a0_5 A0_6 c0_6 l0_6 0 _ HR0.out HC.out HE.out).mono ?_); rintro e w1 ⟨rfl, hb'⟩; have HB1 := Aside0.mk (below_then HB0.out (by have := HS0.out; omega) hb'); have HR1 := Aside0.mk (Kd.C_below HR0.out hb'); have HP1 := Aside0.mk (blk_below HP0.out hb'); have HS1 := Aside0.mk (Nat.lt_of_lt_of_le HS0.out hb'.size); obtain ⟨p0, p1, p2, p3, p4, p5, p6⟩ := plan_cells HP1.out; clear hb'))
            go_region_held3 (fun W' => W'.cell? ⟨w.heap.size, 0, none⟩ = some (.int .i64 a0_0) ∧ W'.cell? ⟨w.heap.size, 1, none⟩ = some (.int .i64 a0_1) ∧ W'.cell? ⟨w.heap.size, 2, none⟩ = some (.int .i64 a0_2) ∧ W'.cell? ⟨w.heap.size, 3, none⟩ = some (.int .i64 a0_3) ∧ W'.cell? ⟨w.heap.size, 4, none⟩ = some (.int .i64 a0_4) ∧ W'.cell? ⟨w.heap.size, 5, none⟩ = some (.int .i64 a0_5) ∧ W'.cell? ⟨w.heap.size, 6, none⟩ = some (.slice A0_6 l0_6.length c0_6) ∧ PlanAt W' w.heap.size a0_0 a0_1 a0_2 a0_3 a0_4 a0_5 (.slice A0_6 l0_6.length c0_6) ∧ Below w.heap.size w W')
              (first | exact plan_S HP1.out (below_drew HB1.out) | exact plan_S (blk_below (blk_below hSW.1 hb') hB3) (below_then (below_then hSW.2 hSW.2.size hb') (Nat.le_trans hSW.2.size hb'.size) hB3) | exact plan_S (blk_below hSW.1 hb') (below_then hSW.2 hSW.2.size hb'))
              (first
                | (go_at_call 25; (with_reducible refine (deprec_digits.calls k a0_3 d _ HD.out).mono ?_); rintro e W2 ⟨v2, rfl, hR2, hb'⟩; obtain ⟨A2, cc2, rfl, hcc, hC2⟩ := Kd.R_reads hR2; have hSW := plan_hS (w := w) (g := w.heap.size) (by assumption))
                | (go_at_call 24; (with_reducible refine (deprec_weighted.calls k (IntKind.i64.wrap (a0_1 - a0_2)) A2 cc2 d l _ hC2 hcc HL.out).mono ?_); rintro e W3 ⟨v3, rfl, hR3, hB3⟩))
            go_wp2
            rename_i hS
            go_ret2
            exact ⟨v3, rfl, Kd.R_lower hR3 (Nat.le_trans hSW.2.size hb'.size), (plan_hS hS).2⟩
          · rw [if_neg m3] at h1; have m3b : (a0_0 == 3) = false := beq_eq_false_iff_ne.mpr m3; clear m3; obtain ⟨l, hL, h3⟩ := Option.bind_eq_some_iff.mp h1; injection h3 with h3
            injection h3 with e1 e2
            subst e1; subst e2; have HL := Aside0.mk hL; clear hL h1 c1; go_enter Try.func12, Try.ntmps12
            go_wp2_with (first | (go_at_call 10; (with_reducible refine (deprec_Check.calls k a0_0 a0_1 a0_2 a0_3 a0_4 a0_5 A0_6 c0_6 l0_6 0 _ HR0.out HC.out HE.out).mono ?_); rintro e w1 ⟨rfl, hb'⟩; have HB1 := Aside0.mk (below_then HB0.out (by have := HS0.out; omega) hb'); have HR1 := Aside0.mk (Kd.C_below HR0.out hb'); have HP1 := Aside0.mk (blk_below HP0.out hb'); have HS1 := Aside0.mk (Nat.lt_of_lt_of_le HS0.out hb'.size); obtain ⟨p0, p1, p2, p3, p4, p5, p6⟩ := plan_cells HP1.out; clear hb') | (go_at_call 24; (with_reducible refine (deprec_weighted.calls k (wrap64 (a0_1 - a0_2)) A0_6 c0_6 l0_6 l _ HR1.out HC.out HL.out).mono ?_); rintro e W3 ⟨v3, rfl, hR3, hB3⟩))
            go_ret2
            exact ⟨v3, rfl, Kd.R_lower hR3 HB1.out.size, below_then HB1.out HB1.out.size hB3⟩
    · rw [if_neg c1] at h1
      cases h1
  · rw [if_neg ce] at h1; injection h1 with h1
    injection h1 with e1 e2
    subst e1; subst e2; have ce0 : (e0 == 0) = false := beq_eq_false_iff_ne.mpr ce; have ce1 : (e0 != 0) = true := bne_iff_ne.mpr ce; clear ce; go_enter Try.func12, Try.ntmps12
    go_wp2_with (first | (go_at_call 10; (with_reducible refine (deprec_Check.calls k a0_0 a0_1 a0_2 a0_3 a0_4 a0_5 A0_6 c0_6 l0_6 e0 _ HR0.out HC.out HE.out).mono ?_); rintro e w' ⟨rfl, hb'⟩; have HB1 := Aside0.mk hb'; clear hb'))
    go_ret2
    exact ⟨_, rfl, Kd.R_nil _ _ _ _ _, below_then HB0.out (by have := HS0.out; omega) HB1.out⟩
end Go.Proofs.Ytadognlkefhoiaa.M
end
section
namespace Go.Proofs.Ytadognlkefhoiaa.M
open Go.RowKit Go.Proofs.YtadognlkefhoiaaW.PrintWords Go.Proofs.YtadognlkefhoiaaW.PrintLast Go.Proofs.YtadognlkefhoiaaW.PrintMore Dv
set_option linter.unusedVariables false
set_option linter.unusedSimpArgs false
def evr (a k n : Int) : Int := a * k / n + if n - a * k % n < a * k % n ∨ (a * k % n = n - a * k % n ∧ a * k / n % 2 = 1) then 1 else 0
theorem evr_near {a k n : Int} (hn : 0 < n) : -n ≤ 2 * (n * evr a k n - a * k) ∧ 2 * (n * evr a k n - a * k) ≤ n := by
  have h1 := Int.emod_add_mul_ediv (a * k) n; have h2 := Int.emod_nonneg (a * k) (show n ≠ 0 by omega); have h3 := Int.emod_lt_of_pos (a * k) hn
  unfold evr
  split
  · rename_i h
    rw [Int.mul_add, Int.mul_one]
    omega
  · rename_i h
    rw [Int.mul_add, Int.mul_zero]
    omega
theorem evr_bounds {a k n : Int} (ha : 0 ≤ a) (hk : 0 ≤ k) (hkn : k ≤ n) (hn : 0 < n) : 0 ≤ evr a k n ∧ evr a k n ≤ a := by
  have q0 : 0 ≤ a * k / n := Int.ediv_nonneg (Int.mul_nonneg ha hk) (by omega); refine ⟨by unfold evr; split <;> omega, ?_⟩; have h1 := (evr_near (a := a) (k := k) hn).2; have h2 : a * k ≤ a * n := Int.mul_le_mul_of_nonneg_left hkn ha
  have h3 : n * (2 * (evr a k n - a) - 1) ≤ 0 := by
    have : n * (2 * (evr a k n - a) - 1) = 2 * (n * evr a k n) - 2 * (a * n) - n := by rw [Int.mul_sub, Int.mul_one, Int.mul_left_comm, Int.mul_sub, Int.mul_comm n a]; omega
    omega
  have h4 : 2 * (evr a k n - a) - 1 ≤ 0 := by
    apply Int.le_of_not_gt; intro h; have := Int.mul_pos hn h
    omega
  omega
theorem mdv_even {a k n : Int} (ha : 0 ≤ a) (ha1 : a ≤ 1000000000000) (hk : 0 ≤ k) (hkn : k ≤ n) (hn : 0 < n) : mdv a k n 4 = (evr a k n, 0) := by
  have hb := evr_bounds ha hk hkn hn
  have e : negv a k n = false := by
    unfold negv
    rw [decide_eq_false (show ¬ a < 0 by omega), decide_eq_false (show ¬ k < 0 by omega), decide_eq_false (show ¬ n < 0 by omega)]
    simp
  have r0 := Int.emod_nonneg (a * k) (show n ≠ 0 by omega)
  have z : sizev a k n 4 = evr a k n := by
    unfold sizev awayv ab evr
    rw [if_neg (show ¬ a < 0 by omega), if_neg (show ¬ k < 0 by omega), if_neg (show ¬ n < 0 by omega), e]
    congr 1
    simp
    by_cases c : n - a * k % n < a * k % n ∨ (a * k % n = n - a * k % n ∧ a * k / n % 2 = 1)
    · have c2 : ¬ a * k % n = 0 := by omega
      rw [if_pos c, if_pos ⟨fun h => c2 (by first | exact h | exact Int.emod_eq_zero_of_dvd h), c⟩]
    · rw [if_neg c, if_neg (fun h => c h.2)]
  unfold mdv
  rw [if_neg (by omega), if_neg (by omega), e, z]
  unfold signv
  rw [if_neg (by simp), if_neg (by omega)]
theorem evr_zero (a n : Int) (hn : 0 < n) : evr a 0 n = 0 := by
  unfold evr
  simp
  omega
theorem evr_full {a n : Int} (hn : 0 < n) : evr a n n = a := by
  unfold evr
  rw [Int.mul_ediv_cancel _ (by omega), Int.mul_emod_left]; rw [if_neg (by omega)]
  omega
def amts {σ : Type} (val : σ → Int → Int × σ) : Nat → Nat → σ → List Int
  | 0, _, _ => []
  | n + 1, j, s => (val s ((j : Int) + 1)).1 :: amts val n (j + 1) (val s ((j : Int) + 1)).2
theorem amts_length {σ : Type} (val : σ → Int → Int × σ) : ∀ n j s, (amts val n j s).length = n
  | 0, _, _ => rfl
  | n + 1, j, s => by simp [amts, amts_length val n]
theorem amountsL.ev {σ : Type} (step : Nat → σ → Int → Option (Int × σ)) (val : σ → Int → Int × σ) (Q : σ → Nat → Prop) (N : Nat) (hN : N < 1000000)
    (h : ∀ s j, Q s j → j < N → Ev (fun k => step k s ((j : Int) + 1)) (val s ((j : Int) + 1)) ∧ Q (val s ((j : Int) + 1)).2 (j + 1)) :
    ∀ n j s l, j + n = N → l.length = j → Q s j → Ev (fun k => amountsL (step k) n j s l) (l ++ amts val n j s)
  | 0, j, s, l, hj, hl, hq => by simpa [amountsL, amts] using Ev.const l
  | n + 1, j, s, l, hj, hl, hq => by
    have g : l.length < 17592186044416 := by omega
    simp only [amountsL, if_pos g]; have h1 := h s j hq (by omega); refine Ev.bind h1.1 ?_; have ih := amountsL.ev step val Q N hN h n (j + 1) (val s ((j : Int) + 1)).2 (l ++ [(val s ((j : Int) + 1)).1]) (by omega) (by simp [hl]) h1.2
    simpa [amts] using ih
def valS (a n : Int) : Unit → Int → Int × Unit := fun _ x => (evr a x n - evr a (x - 1) n, ())
def valD (s n N D : Int) : Int → Int → Int × Int := fun b x =>
  let t := if n - x + 1 > 1 then mn (b - s) (mx (b * N / D) ((b - s) / (n - x + 1))) else b - s
  (t, b - t)
theorem valD_bounds {s n N D b x : Int} (hb : s ≤ b) (hb0 : 0 ≤ b) (hN : 0 ≤ N) (hD : 0 < D) : 0 ≤ (valD s n N D b x).1 ∧ (valD s n N D b x).1 ≤ b - s := by
  have h1 : 0 ≤ b * N / D := Int.ediv_nonneg (Int.mul_nonneg hb0 hN) (by omega)
  unfold valD
  simp only
  split
  · unfold mn mx
    split <;> split <;> omega
  · omega
theorem straight_1_ev {c s n x : Int} (hs : 0 ≤ s) (hsc : s ≤ c) (hc : c ≤ 1000000000000) (hn : 0 < n) (hn2 : n ≤ 200) (h0 : 0 ≤ x) (h1 : x ≤ n) : Ev (fun k => deprec_straight_1.f k c s n x) (evr (c - s) x n) := by
  unfold deprec_straight_1.f
  have e : wrap64 (c - s) = c - s := w64 (by omega) (by omega); rw [e]; refine Ev.bind (muldiv_MulDiv.eq 4 (by unfold inI; omega) (by unfold inI; omega) (by unfold inI; omega)) ?_; rw [mdv_even (by omega) (by omega) h0 h1 hn]; exact Ev.const _
theorem stepS_ev {c s n : Int} (hs : 0 ≤ s) (hsc : s ≤ c) (hc : c ≤ 1000000000000) (hn : 0 < n) (hn2 : n ≤ 200) (j : Nat) (hj : (j : Int) < n) : Ev (fun k => deprec_Schedule.stepS k c s n () ((j : Int) + 1)) (valS (c - s) n () ((j : Int) + 1)) := by
  unfold deprec_Schedule.stepS deprec_straight_2.f valS
  have e1 : wrap64 (j : Int) = j := w64 (by omega) (by omega); have e2 : (j : Int) + 1 - 1 = j := by omega
  have b1 := evr_bounds (a := c - s) (k := (j : Int) + 1) (n := n) (by omega) (by omega) (by omega) hn; have b2 := evr_bounds (a := c - s) (k := (j : Int)) (n := n) (by omega) (by omega) (by omega) hn; have e3 : wrap64 (evr (c - s) ((j : Int) + 1) n - evr (c - s) j n) = evr (c - s) ((j : Int) + 1) n - evr (c - s) j n := w64 (by omega) (by omega); rw [e2]; refine Ev.bind (a := evr (c - s) ((j : Int) + 1) n - evr (c - s) j n) (Ev.bind (straight_1_ev hs hsc hc hn hn2 (by omega) (by omega)) ?_) (Ev.const _); rw [e1]; refine Ev.bind (straight_1_ev hs hsc hc hn hn2 (by omega) (by omega)) ?_; rw [e3]; exact Ev.const _
theorem mdv_comm (a b c mode : Int) : mdv a b c mode = mdv b a c mode := by
  have e : negv a b c = negv b a c := by
    unfold negv
    rw [Int.mul_comm a b]
    cases decide (a < 0) <;> cases decide (b < 0) <;> rfl
  unfold mdv sizev
  rw [e, Int.mul_comm (ab a) (ab b)]
theorem applyv_down {N D b : Int} (hr : rightv N D = true) (h0 : 0 ≤ N) (h1 : N ≤ D) (hb : 0 ≤ b) (hb1 : b ≤ 1000000000000000) : applyv N D b 1 = (b * N / D, 0) ∧ 0 ≤ b * N / D ∧ b * N / D ≤ b := by
  have hB := rightv_bounds hr; have hd := mdv_down hb hb1 h0 h1 (show 0 < D by omega)
  unfold applyv
  rw [if_pos hr, mdv_comm]; exact hd
theorem stepD_ev {c s n N D : Int} (hs : 0 ≤ s) (hc : c ≤ 1000000000000) (hn : 0 < n) (hn2 : n ≤ 200) (hr : rightv N D = true) (h0 : 0 < N) (h1 : N < D) (b : Int) (hb : s ≤ b) (hbc : b ≤ c) (j : Nat) (hj : (j : Int) < n) : Ev (fun k => deprec_Schedule.stepD k s n N D b ((j : Int) + 1)) (valD s n N D b ((j : Int) + 1)) := by
  have hB := rightv_bounds hr; have vb := valD_bounds (s := s) (n := n) (N := N) (D := D) (b := b) (x := (j : Int) + 1) hb (by omega) (by omega) (by omega); have e1 : wrap64 (n - ((j : Int) + 1)) = n - ((j : Int) + 1) := w64 (by omega) (by omega); have e2 : wrap64 (n - ((j : Int) + 1) + 1) = n - ((j : Int) + 1) + 1 := w64 (by omega) (by omega); have e3 : wrap64 (b - s) = b - s := w64 (by omega) (by omega)
  unfold deprec_Schedule.stepD deprec_declining_1.f
  refine Ev.bind (a := (valD s n N D b ((j : Int) + 1)).1) ?_ ?_
  · rw [e1, e2, e3]
    by_cases g : n - ((j : Int) + 1) + 1 > 1
    · simp only [if_pos g]; have ap := applyv_down hr (by omega) (by omega) (show 0 ≤ b by omega) (by omega); refine Ev.bind (frac_Apply.eq 1 (by unfold inI; omega) (by unfold inI; omega) (by unfold inI; omega)) ?_; rw [ap.1]; have e4 : Int.tdiv (b - s) (n - ((j : Int) + 1) + 1) = (b - s) / (n - ((j : Int) + 1) + 1) := Int.tdiv_eq_ediv_of_nonneg (by omega); have d0 : 0 ≤ (b - s) / (n - ((j : Int) + 1) + 1) := Int.ediv_nonneg (by omega) (by omega); have d1 : (b - s) / (n - ((j : Int) + 1) + 1) ≤ b - s := Int.ediv_le_self _ (by omega); have e5 : wrap64 ((b - s) / (n - ((j : Int) + 1) + 1)) = (b - s) / (n - ((j : Int) + 1) + 1) := w64 (by omega) (by omega); rw [e4, e5]; have : (valD s n N D b ((j : Int) + 1)).1 = mn (b - s) (mx (b * N / D) ((b - s) / (n - ((j : Int) + 1) + 1))) := by simp only [valD, if_pos g]
      rw [this]; exact Ev.const _
    · simp only [if_neg g]; have : (valD s n N D b ((j : Int) + 1)).1 = b - s := by simp only [valD, if_neg g]
      rw [this]; exact Ev.const _
  · have e6 : wrap64 (b - (valD s n N D b ((j : Int) + 1)).1) = b - (valD s n N D b ((j : Int) + 1)).1 := w64 (by omega) (by omega); rw [e6]; exact Ev.const _
def dg : Nat → List Int
  | 0 => []
  | m + 1 => ((m : Int) + 1) :: dg m
theorem dg_length : ∀ m, (dg m).length = m
  | 0 => rfl
  | m + 1 => by simp [dg, dg_length m]
theorem dg_bounds : ∀ m, ∀ x ∈ dg m, 1 ≤ x ∧ x ≤ m
  | 0, x, h => by simp [dg] at h
  | m + 1, x, h => by
    simp only [dg, List.mem_cons] at h
    rcases h with rfl | h
    · omega
    · have := dg_bounds m x h; omega
theorem sum_le_of (b : Int) : ∀ l : List Int, (∀ x ∈ l, x ≤ b) → l.sum ≤ b * l.length
  | [], _ => by simp
  | x :: l, h => by
    have h1 := h x (by simp); have h2 := sum_le_of b l (fun y hy => h y (by simp [hy])); have h3 : b * ((l.length : Int) + 1) = b * l.length + b := by rw [Int.mul_add, Int.mul_one]
    simp only [List.sum_cons, List.length_cons]; have h4 : ((l.length + 1 : Nat) : Int) = (l.length : Int) + 1 := by omega
    rw [h4, h3]; omega
theorem deprec_digits.go (n : Int) (hn : n ≤ 200) : ∀ (d : Nat) (L : List Int) (i : Int), i + d = n → 0 ≤ i → L.length ≤ 1000 - d → d ≤ 1000 → Ev (fun k => deprec_digits.l0 k n L n i) (L ++ dg d)
  | 0, L, i, hi, h0, hL, hd => by
    refine Ev.succ ?_; have g : ¬ i < n := by omega
    simp only [deprec_digits.l0, if_neg g]
    simpa [dg] using Ev.const L
  | d + 1, L, i, hi, h0, hL, hd => by
    refine Ev.succ ?_; have g : i < n := by omega
    have g2 : L.length < 17592186044416 := by omega
    have e1 : wrap64 (n - i) = (d : Int) + 1 := by rw [w64 (by omega) (by omega)]; omega
    have e2 : wrap64 (i + 1) = i + 1 := w64 (by omega) (by omega); simp only [deprec_digits.l0, if_pos g, if_pos g2, e1, e2]; have ih := deprec_digits.go n hn d (L ++ [(d : Int) + 1]) (i + 1) (by omega) (by omega) (by simp; omega) (by omega)
    simpa [dg] using ih
theorem deprec_weighted.eq {a : Int} {l : List Int} (hl : l.length < 1000000) (hw : ∀ x ∈ l, x ≤ 9223372036854775807) : Ev (fun k => deprec_weighted.f k a l) (if shErr a l = 0 then shr a l else []) := by
  have g1 : (0 : Int) ≤ (l.length : Int) := by omega
  have g2 : (l.length : Int).toNat ≤ 35184372088832 := by omega
  have c : pw_copy_24.f (List.replicate (l.length : Int).toNat 0) l = some ((l.length : Int), l) := by
    unfold pw_copy_24.f
    simp
  simp only [deprec_weighted.f, if_pos g1, if_pos g2, c, Option.bind_some]; exact Ev.bind (split_Shares.eq (by omega) hw) (Ev.const _)
noncomputable def amtv (m c s n N D : Int) (l : List Int) : List Int :=
  if m = 1 then amts (valS (c - s) n) n.toNat 0 () else if m = 2 then amts (valD s n N D) n.toNat 0 c else if m = 3 then shr (c - s) (dg n.toNat) else shr (c - s) l
noncomputable def schv (m c s n N D : Int) (l : List Int) : List Int × Int := if chkv m c s n N D l = 0 then (amtv m c s n N D l, 0) else ([], chkv m c s n N D l)
structure Okp (m c s n N D : Int) (l : List Int) : Prop where
  m1 : 1 ≤ m ∧ m ≤ 4
  c1 : 1 ≤ c ∧ c ≤ 1000000000000
  s1 : 0 ≤ s ∧ s ≤ c
  n1 : 1 ≤ n ∧ n ≤ 200
  f : m = 2 → rightv N D = true ∧ 0 < N ∧ N < D
  u : m = 4 → usedv n l = true
theorem chkv_ok {m c s n N D : Int} {l : List Int} (h : chkv m c s n N D l = 0) : Okp m c s n N D l := by
  unfold chkv at h
  split at h
  · omega
  · split at h
    · omega
    · split at h
      · omega
      · split at h
        · omega
        · rename_i h1 h2 h3 h4
          refine ⟨by omega, by omega, by omega, by omega, fun e => ?_, fun e => ?_⟩
          · refine ⟨?_, ?_, ?_⟩
            · cases hr : rightv N D with
              | true => rfl
              | false => exact absurd ⟨e, .inl hr⟩ h3
            · exact Int.lt_of_not_ge (fun k => h3 ⟨e, .inr (.inl k)⟩)
            · exact Int.lt_of_not_ge (fun k => h3 ⟨e, .inr (.inr k)⟩)
          · cases hu : usedv n l with
            | true => rfl
            | false => exact absurd ⟨e, hu⟩ h4
theorem usedv_fit {n : Int} {l : List Int} (hn : n ≤ 200) (h : usedv n l = true) : (l.length : Int) = n ∧ (∀ x ∈ l, 0 ≤ x ∧ x ≤ 1000000000) ∧ 0 < l.sum ∧ l.sum ≤ 200000000000 := by
  unfold usedv allB posB at h
  simp only [Bool.and_eq_true, List.all_eq_true, List.any_eq_true, decide_eq_true_eq, beq_iff_eq] at h; obtain ⟨⟨h1, x, hx, hp⟩, h2⟩ := h; have s0 := le_sum (l := l) (fun y hy => (h1 y hy).1) x hx; have s1 := sum_le_of 1000000000 l (fun y hy => (h1 y hy).2); exact ⟨h2, h1, by omega, by omega⟩
theorem shErr_zero {a : Int} {l : List Int} (ha : -1000000000000000 ≤ a ∧ a ≤ 1000000000000000) (hl : l.length ≤ 200) (h0 : ∀ x ∈ l, 0 ≤ x) (h1 : 0 < l.sum) (h2 : l.sum ≤ 1000000000000000) : shErr a l = 0 := by
  unfold shErr
  rw [if_neg (by omega), if_neg (by omega), if_neg, if_neg (by omega), if_neg (by omega)]; rintro ⟨x, hx, h⟩; have := h0 x hx
  omega
theorem dg_fit {n : Nat} (h1 : 1 ≤ n) (h2 : n ≤ 200) : 0 < (dg n).sum ∧ (dg n).sum ≤ 40000 := by
  have b := dg_bounds n; have s1 := sum_le_of 200 (dg n) (fun x hx => by have := b x hx; omega); rw [dg_length] at s1; obtain ⟨m, rfl⟩ : ∃ m, n = m + 1 := ⟨n - 1, by omega⟩; have s0 := le_sum (l := dg (m + 1)) (fun x hx => by have := b x hx; omega) ((m : Int) + 1) (by simp [dg])
  omega
theorem sh_dg {c s n : Int} (hs : 0 ≤ s) (hsc : s ≤ c) (hc : c ≤ 1000000000000) (hn : 1 ≤ n) (hn2 : n ≤ 200) : shErr (c - s) (dg n.toNat) = 0 :=
  have f := dg_fit (n := n.toNat) (by omega) (by omega)
  shErr_zero (by omega) (by rw [dg_length]; omega) (fun x hx => by have := dg_bounds _ x hx; omega) f.1 (by omega)
theorem sh_used {c s n : Int} {l : List Int} (hs : 0 ≤ s) (hsc : s ≤ c) (hc : c ≤ 1000000000000) (hn2 : n ≤ 200) (h : usedv n l = true) : shErr (c - s) l = 0 :=
  have f := usedv_fit hn2 h
  shErr_zero (by omega) (by omega) (fun x hx => (f.2.1 x hx).1) f.2.2.1 (by omega)
theorem deprec_Schedule.eq {m c s n N D : Int} {l : List Int} (hN : inI N) (hD : inI D) (hl : l.length < 1000000) : Ev (fun k => deprec_Schedule.f k m c s n N D l) (schv m c s n N D l) := by
  unfold deprec_Schedule.f schv
  refine Ev.bind (deprec_Check.eq hN hD (by omega)) ?_
  by_cases h : chkv m c s n N D l = 0
  · have K := chkv_ok h; obtain ⟨h1, h2, h3, h4, h5, h6⟩ := K; have g : n ≤ 1000000 := by omega
    simp only [if_pos h, if_pos g]
    unfold amtv
    have e : wrap64 (c - s) = c - s := w64 (by omega) (by omega)
    by_cases m1 : m = 1
    · simp only [if_pos m1]; refine Ev.bind (amountsL.ev (fun k => deprec_Schedule.stepS k c s n) (valS (c - s) n) (fun _ _ => True) n.toNat (by omega) (fun _ j _ hj => ⟨stepS_ev h3.1 h3.2 h2.2 (by omega) h4.2 j (by omega), trivial⟩) n.toNat 0 () [] (by omega) rfl trivial) (Ev.const _)
    · simp only [if_neg m1]
      by_cases m2 : m = 2
      · simp only [if_pos m2]; have F := h5 m2; have hB := rightv_bounds F.1; refine Ev.bind (amountsL.ev (fun k => deprec_Schedule.stepD k s n N D) (valD s n N D) (fun b _ => s ≤ b ∧ b ≤ c) n.toNat (by omega) (fun b j hb hj => ⟨stepD_ev h3.1 h2.2 (by omega) h4.2 F.1 F.2.1 F.2.2 b hb.1 hb.2 j (by omega), ?_⟩) n.toNat 0 c [] (by omega) rfl ⟨h3.2, Int.le_refl _⟩) (Ev.const _); have vb := valD_bounds (s := s) (n := n) (N := N) (D := D) (b := b) (x := (j : Int) + 1) hb.1 (by omega) (by omega) (by omega); show s ≤ b - (valD s n N D b ((j : Int) + 1)).1 ∧ b - (valD s n N D b ((j : Int) + 1)).1 ≤ c
        omega
      · simp only [if_neg m2, e]
        by_cases m3 : m = 3
        · simp only [if_pos m3]; refine Ev.bind (a := dg n.toNat) ?_ ?_
          · have := deprec_digits.go n h4.2 n.toNat [] 0 (by omega) (by omega) (by simp) (by omega)
            simpa [deprec_digits.f] using this
          · refine Ev.bind (deprec_weighted.eq (by rw [dg_length]; omega) (fun x hx => by have := dg_bounds _ x hx; omega)) ?_; rw [if_pos (sh_dg h3.1 h3.2 h2.2 h4.1 h4.2)]; exact Ev.const _
        · simp only [if_neg m3]; have u := h6 (by omega); have f := usedv_fit h4.2 u; refine Ev.bind (deprec_weighted.eq (by omega) (fun x hx => by have := f.2.1 x hx; omega)) ?_; rw [if_pos (sh_used h3.1 h3.2 h2.2 h4.2 u)]; exact Ev.const _
  · simp only [if_neg h]; exact Ev.const _
end Go.Proofs.Ytadognlkefhoiaa.M
end
section
namespace Go.Proofs.YtadognlkefhoiaaW.PrintLast
open Go.RowKit Go.Proofs.YtadognlkefhoiaaW.PrintWords
section
variable {P : Program} {α β : Type}
structure Opens (P : Program) (d : Kd α) (t : TypeId) (G : α → Prop) : Prop where
  get : ∀ {H : Type} (enc : TypeId × Value → H) (W : World) (base : Nat) (sp : Nat → Bool) (held : Bool) (fuel : Nat) (cs : List Value) (x : DataW H × List MemPlace), DataW.trod enc P W base sp held fuel t cs = some x → (∀ n ∈ DataW.weights P t x.1, n ≤ reachBytes) → ∃ a : α, d.K W a cs ∧ G a
theorem Opens.imp {d : Kd α} {t : TypeId} {G G' : α → Prop} (h : Opens P d t G) (hg : ∀ a, G a → G' a) : Opens P d t G' :=
  ⟨fun enc W base sp held fuel cs x hx hw => let ⟨a, h1, h2⟩ := h.get enc W base sp held fuel cs x hx hw; ⟨a, h1, hg a h2⟩⟩
theorem Opens.int {t : TypeId} {k : IntKind} (ht : P.underlying t = some (.int k)) : Opens P (Kd.int k) t (fun n => (Lit.int k n).wf = true) :=
  ⟨fun enc W base sp held fuel cs x hx hw => by
    obtain ⟨n, rfl, _, h⟩ := DataW.trod_int ht hx; exact ⟨n, rfl, h⟩⟩
theorem Opens.bool {t : TypeId} (ht : P.underlying t = some .bool) : Opens P Kd.bool t (fun _ => True) :=
  ⟨fun enc W base sp held fuel cs x hx hw => by
    obtain ⟨n, rfl, _⟩ := DataW.trod_bool ht hx; exact ⟨n, rfl, trivial⟩⟩
theorem Opens.string {t : TypeId} (ht : P.underlying t = some .string) : Opens P Kd.string t (fun s => s.size ≤ 140737488351232) :=
  ⟨fun enc W base sp held fuel cs x hx hw => by
    obtain ⟨s, rfl, rfl, h⟩ := DataW.trod_string ht hx; have := hw s.data.toList.length (by simp [DataW.weights]); rw [Array.length_toList] at this; exact ⟨s, rfl, this⟩⟩
theorem list_of {Q : Nat → α → Prop} : ∀ n : Nat, (∀ i, i < n → ∃ a, Q i a) → ∃ xs : List α, xs.length = n ∧ ∀ i a, xs[i]? = some a → Q i a
  | 0, _ => ⟨[], rfl, fun i a h => by simp at h⟩
  | n + 1, h => by
    obtain ⟨xs, hl, hx⟩ := list_of n (fun i hi => h i (by omega)); obtain ⟨a, ha⟩ := h n (by omega); refine ⟨xs ++ [a], by simp [hl], fun i b hb => ?_⟩
    by_cases hi : i < n
    · rw [List.getElem?_append_left (by omega)] at hb; exact hx i b hb
    · have hi2 : i < n + 1 := by have := (List.getElem?_eq_some_iff.1 hb).1; simp [hl] at this; exact this
      obtain rfl : i = n := by omega
      rw [List.getElem?_append_right (by omega), hl] at hb
      simp at hb
      subst hb; exact ha
theorem Opens.slice {d : Kd α} {t e : TypeId} {G : α → Prop} (ht : P.underlying t = some (.slice e)) (h : Opens P d e G) (hc : P.cellsOf e = d.sz) {b : Nat} (hb : P.bytesOf e = b) : Opens P (Kd.slice e d) t (fun xs => xs.length * b ≤ 140737488351232 ∧ ∀ x ∈ xs, G x) :=
  ⟨fun {H} enc W base sp held fuel cs x hx hw => by
    rcases DataW.trod_slice ht hx with ⟨rfl, rfl⟩ | ⟨a, len, cap, elems, rest, n, rfl, rfl, rfl, hba, hl, hm, hlen, hel, _, _⟩
    · exact ⟨[], ⟨none, 0, rfl, Nat.le_refl _, rfl, by simp, fun h => absurd h (Nat.lt_irrefl 0)⟩, by simp, fun _ h => by simp at h⟩
    · simp only [DataW.weights, ht] at hw; have hw0 := hw _ (List.mem_cons_self ..)
      have each : ∀ i, i < len → ∃ y : α, (∃ c : List Value, c.length = d.sz ∧ d.K W y c ∧ ∀ j u, c[j]? = some u → W.cell? (a.add (i * d.sz + j)) = some u) ∧ G y := by
        intro i hi; have h1 := hel i hi; rw [List.getElem?_eq_getElem (by omega)] at h1; obtain ⟨c, hcs, h2⟩ := Option.bind_eq_some_iff.1 h1; obtain ⟨_, hcl, hcc⟩ := World.cells?_some hcs
        obtain ⟨y, hk, hg⟩ := h.get enc W base sp held n c _ h2 (fun m hm => hw m (List.mem_cons_of_mem _ (List.mem_append_left _ (by
          have : ∀ (l : List (DataW H)) (z : DataW H), z ∈ l → ∀ m ∈ DataW.weights P e z, m ∈ DataW.weightsAll P e l := by
            intro l z hz m hm
            induction l with
            | nil => simp at hz
            | cons y l ih =>
              simp only [DataW.weightsAll, List.mem_append]
              rcases List.mem_cons.1 hz with rfl | hz
              · exact .inl hm
              · exact .inr (ih hz)
          exact this _ _ (List.mem_map.2 ⟨_, List.getElem_mem (by omega), rfl⟩) m hm))))
        refine ⟨y, ⟨c, by rw [hcl, hc], hk, fun j u hu => ?_⟩, hg⟩; have hj : j < c.length := (List.getElem?_eq_some_iff.1 hu).1; rw [hc] at hcc; have := hcc j (by omega); rw [add_add] at this; rw [this, hu]
      obtain ⟨ys, hyl, hy⟩ := list_of len each; refine ⟨ys, ⟨some a, cap, by rw [hyl], by omega, rfl, ?_, fun _ => ⟨a, rfl, fun j p hj => (hy j p hj).1⟩⟩, ?_, fun y hy' => ?_⟩
      · unfold maxLen at hm; omega
      · rw [hyl]; have h2 : (elems.map (·.1)).length + (rest.map (·.1)).length ≥ len := by simp; omega
        have h3 : len * b ≤ ((elems.map (·.1)).length + (rest.map (·.1)).length) * P.bytesOf e := by rw [hb]; exact Nat.mul_le_mul_right _ h2
        exact Nat.le_trans h3 hw0
      · obtain ⟨j, hj⟩ := List.getElem?_of_mem hy'; exact (hy j y hj).2⟩
theorem Opens.iso {d : Kd α} {t : TypeId} {G : α → Prop} (h : Opens P d t G) (f : β → α) (g : α → β) (hg : ∀ a, f (g a) = a) : Opens P (Kd.iso d f) t (fun b => G (f b)) :=
  ⟨fun enc W base sp held fuel cs x hx hw => let ⟨a, h1, h2⟩ := h.get enc W base sp held fuel cs x hx hw; ⟨g a, by show d.K W (f (g a)) cs; rw [hg]; exact h1, by rw [hg]; exact h2⟩⟩
structure FOpens (P : Program) (d : Kd α) (fs : List Field) (o : Nat) (G : α → Prop) : Prop where
  get : ∀ {H : Type} (enc : TypeId × Value → H) (W : World) (base : Nat) (sp : Nat → Bool) (held : Bool) (n : Nat) (cs : List Value) (xs : List (DataW H × List MemPlace)), o + d.sz = cs.length → xs.length = fs.length →
    (∀ (i : Nat) (f : Field), fs[i]? = some f → DataW.trod enc P W base sp held n f.type ((cs.drop f.offset).take (P.cellsOf f.type)) = xs[i]?) → (∀ m ∈ DataW.weightsEach P (fs.map (·.type)) (xs.map (·.1)), m ≤ reachBytes) → ∃ a : α, d.K W a (cs.drop o) ∧ G a
theorem FOpens.one {d : Kd α} {f : Field} {o : Nat} {G : α → Prop} (h : Opens P d f.type G) (ho : f.offset = o) (hs : P.cellsOf f.type = d.sz) : FOpens P d [f] o G :=
  ⟨fun enc W base sp held n cs xs hl hx ht hw => by
    obtain ⟨x, rfl⟩ := List.length_eq_one_iff.1 hx; have h1 := ht 0 f rfl; rw [ho, hs, List.take_of_length_le (by simp; omega)] at h1; exact h.get enc W base sp held n _ x h1 (fun m hm => hw m (by simpa [DataW.weightsEach] using hm))⟩
theorem FOpens.cons {d : Kd α} {d2 : Kd β} {f : Field} {fs : List Field} {o : Nat} {G : α → Prop} {G2 : β → Prop} (h : Opens P d f.type G) (ho : f.offset = o) (hs : P.cellsOf f.type = d.sz) (hr : FOpens P d2 fs (o + d.sz) G2) : FOpens P (Kd.pair d d2) (f :: fs) o (fun p => G p.1 ∧ G2 p.2) :=
  ⟨fun enc W base sp held n cs xs hl hx ht hw => by
    cases xs with
    | nil => simp at hx
    | cons x xs =>
      have h1 := ht 0 f rfl; simp only [List.getElem?_cons_zero] at h1; rw [ho, hs] at h1; have e : o + (Kd.pair d d2).sz = o + d.sz + d2.sz := by show o + (d.sz + d2.sz) = _; omega
      obtain ⟨a, ha, hga⟩ := h.get enc W base sp held n _ x h1 (fun m hm => hw m (by simp only [List.map_cons, DataW.weightsEach, List.mem_append]; exact .inl hm)); obtain ⟨b, hb, hgb⟩ := hr.get enc W base sp held n cs xs (by omega) (by simpa using hx) (fun i f' hf => by simpa using ht (i + 1) f' (by simpa using hf)) (fun m hm => hw m (by simp only [List.map_cons, DataW.weightsEach, List.mem_append]; exact .inr hm)); refine ⟨(a, b), ⟨_, _, ?_, ha, hb⟩, hga, hgb⟩; rw [← List.drop_drop, List.take_append_drop]⟩
theorem Opens.struct {d : Kd α} {t : TypeId} {fs : Array Field} {G : α → Prop} (ht : P.underlying t = some (.struct fs)) (hs : P.cellsOf t = d.sz) (h : FOpens P d fs.toList 0 G) : Opens P d t G :=
  ⟨fun enc W base sp held fuel cs x hx hw => by
    obtain ⟨xs, n, rfl, rfl, hl, hxl, hi⟩ := DataW.trod_struct ht hx; simp only [DataW.weights, ht] at hw; have := h.get enc W base sp held n cs xs (by omega) (by simpa using hxl) (fun i f hf => hi i f (by simpa using hf)) hw
    simpa using this⟩
theorem weights_at {H : Type} {ts : List TypeId} {ds : List (DataW H)} (h : (DataW.weightsEach P ts ds).all (· ≤ reachBytes) = true) {j : Nat} {t : TypeId} {d : DataW H} (ht : ts[j]? = some t) (hd : ds[j]? = some d) : ∀ n ∈ DataW.weights P t d, n ≤ reachBytes :=
  fun n hn => by simpa using List.all_eq_true.1 h _ (DataW.weights_mem_each ht hd n hn)
end
end Go.Proofs.YtadognlkefhoiaaW.PrintLast
end
section
namespace Go.Proofs.Ytadognlkefhoiaa.M
open Go.RowKit Go.Proofs.YtadognlkefhoiaaW.PrintWords Go.Proofs.YtadognlkefhoiaaW.PrintLast Go.Proofs.YtadognlkefhoiaaW.PrintMore
attribute [local go_sem] max2_int min2_int max_two min_two max_three min_three max_four min_four
set_option linter.unusedVariables false
set_option linter.unusedSimpArgs false
def G23 (x_ : S23) : Prop := ((Lit.int .i64 x_.f0).wf = true) ∧ ((Lit.int .i64 x_.f1).wf = true)
theorem opens23 : Opens Try.prog k23 23 G23 :=
  Opens.imp (Opens.iso (Opens.struct Try.underlying23 (by kernel_rfl) (FOpens.cons (Opens.int Try.underlying3) rfl (by kernel_rfl) (FOpens.one (Opens.int Try.underlying3) rfl (by kernel_rfl)))) (fun x : S23 => (x.f0, x.f1)) (fun p => (⟨p.1, p.2⟩ : S23)) (fun _ => rfl)) (fun _ h => h)
def G26 (x_ : S26) : Prop := ((Lit.int .i64 x_.f0).wf = true) ∧ (((Lit.int .i64 x_.f1).wf = true) ∧ (((Lit.int .i64 x_.f2).wf = true) ∧ (((Lit.int .i64 x_.f3).wf = true) ∧ ((G23 x_.f4) ∧ (x_.f5.length * 8 ≤ 140737488351232 ∧ ∀ y0_ ∈ x_.f5, (Lit.int .i64 y0_).wf = true)))))
theorem opens26 : Opens Try.prog k26 26 G26 :=
  Opens.imp (Opens.iso (Opens.struct Try.underlying26 (by kernel_rfl) (FOpens.cons (Opens.int Try.underlying3) rfl (by kernel_rfl) (FOpens.cons (Opens.int Try.underlying3) rfl (by kernel_rfl) (FOpens.cons (Opens.int Try.underlying3) rfl (by kernel_rfl) (FOpens.cons (Opens.int Try.underlying3) rfl (by kernel_rfl) (FOpens.cons opens23 rfl (by kernel_rfl) (FOpens.one (Opens.slice Try.underlying24 (Opens.int Try.underlying3) (by kernel_rfl) (b := 8) (by kernel_rfl)) rfl (by kernel_rfl)))))))) (fun x : S26 => (x.f0, x.f1, x.f2, x.f3, x.f4, x.f5)) (fun p => (⟨p.1, p.2.1, p.2.2.1, p.2.2.2.1, p.2.2.2.2.1, p.2.2.2.2.2⟩ : S26)) (fun _ => rfl)) (fun _ h => h)
mutual
def deprec_After.j0 : Nat → Int → List Int → Bool → Int → Int → Int → Int → Int → Int → List Int → Option (Int × Int)
  | 0, _, _, _, _, _, _, _, _, _, _ => none
  | k + 1, x1, x6, x24, x102000, x102001, x102002, x102003, x102004, x102005, x102006 => if x24 = true then (some (0, 3)) else (if 0 ≤ x1 then (if x1 ≤ (x6.length : Int) then ((some (x6.take (x1 : Int).toNat : List Int)).bind fun y106 => (deprec_After.l0 k x102001 y106 (y106.length : Int) 0)) else (none)) else (none))
def deprec_After.l0 : Nat → Int → List Int → Int → Int → Option (Int × Int)
  | 0, _, _, _, _ => none
  | k + 1, x4, x29, x30, x31 => if x31 < x30 then (if 0 ≤ x31 then (if x31 < (x29.length : Int) then (deprec_After.l0 k (wrap64 (x4 - (rd x29 x31))) x29 x30 (wrap64 (x31 + 1))) else (none)) else (none)) else (some (x4, 0))
end
def deprec_After.f (k : Nat) (a0_0 : Int) (a0_1 : Int) (a0_2 : Int) (a0_3 : Int) (a0_4 : Int) (a0_5 : Int) (l0_6 : List Int) (a1 : Int) : Option (Int × Int) := (deprec_Schedule.f k a0_0 a0_1 a0_2 a0_3 a0_4 a0_5 l0_6).bind fun bt102 => (if bt102.2 = 0 then (if a1 < 0 then (deprec_After.j0 k a1 bt102.1 true a0_0 a0_1 a0_2 a0_3 a0_4 a0_5 l0_6) else (deprec_After.j0 k a1 bt102.1 (decide (a1 > a0_3)) a0_0 a0_1 a0_2 a0_3 a0_4 a0_5 l0_6)) else (some (0, bt102.2)))
theorem deprec_After.mono_l : ∀ k, (∀ y0 y1 y2 y3 y4 y5 y6 y7 y8 y9, LeO (deprec_After.j0 k y0 y1 y2 y3 y4 y5 y6 y7 y8 y9) (deprec_After.j0 (k + 1) y0 y1 y2 y3 y4 y5 y6 y7 y8 y9)) ∧ (∀ y0 y1 y2 y3, LeO (deprec_After.l0 k y0 y1 y2 y3) (deprec_After.l0 (k + 1) y0 y1 y2 y3))
  | 0 => ⟨fun _ _ _ _ _ _ _ _ _ _ r h => by simp [deprec_After.j0] at h, fun _ _ _ _ r h => by simp [deprec_After.l0] at h⟩
  | k + 1 => by
    obtain ⟨ih0, ih1⟩ := deprec_After.mono_l k; refine ⟨?_, ?_⟩
    · intro y0 y1 y2 y3 y4 y5 y6 y7 y8 y9
      unfold deprec_After.j0
      repeat' first
      | (with_reducible exact ih0 _ _ _ _ _ _ _ _ _ _)
      | (with_reducible exact ih1 _ _ _ _)
      | (with_reducible exact deprec_Schedule.mono _ _ _ _ _ _ _ _)
      | (with_reducible exact LeO.refl _)
      | (with_reducible exact LeO.none _)
      | (with_reducible refine LeO.ite ?_ ?_)
      | (with_reducible refine LeO.bind ?_ (fun _ => ?_))
      | exact ih0 _ _ _ _ _ _ _ _ _ _
      | exact ih1 _ _ _ _
      | exact deprec_Schedule.mono _ _ _ _ _ _ _ _
      | exact LeO.none _
      | refine LeO.ite ?_ ?_
      | refine LeO.bind ?_ (fun _ => ?_)
    · intro y0 y1 y2 y3
      unfold deprec_After.l0
      repeat' first
      | (with_reducible exact ih0 _ _ _ _ _ _ _ _ _ _)
      | (with_reducible exact ih1 _ _ _ _)
      | (with_reducible exact deprec_Schedule.mono _ _ _ _ _ _ _ _)
      | (with_reducible exact LeO.refl _)
      | (with_reducible exact LeO.none _)
      | (with_reducible refine LeO.ite ?_ ?_)
      | (with_reducible refine LeO.bind ?_ (fun _ => ?_))
      | exact ih0 _ _ _ _ _ _ _ _ _ _
      | exact ih1 _ _ _ _
      | exact deprec_Schedule.mono _ _ _ _ _ _ _ _
      | exact LeO.none _
      | refine LeO.ite ?_ ?_
      | refine LeO.bind ?_ (fun _ => ?_)
theorem deprec_After.mono : ∀ a0 a1 a2 a3 a4 a5 a6 a7 k, LeO (deprec_After.f k a0 a1 a2 a3 a4 a5 a6 a7) (deprec_After.f (k + 1) a0 a1 a2 a3 a4 a5 a6 a7) := by
 intro a0 a1 a2 a3 a4 a5 a6 a7 k; obtain ⟨ih0, ih1⟩ := deprec_After.mono_l k
 unfold deprec_After.f
 repeat' first
   | (with_reducible exact ih0 _ _ _ _ _ _ _ _ _ _)
   | (with_reducible exact ih1 _ _ _ _)
   | (with_reducible exact deprec_Schedule.mono _ _ _ _ _ _ _ _)
   | (with_reducible exact LeO.refl _)
   | (with_reducible exact LeO.none _)
   | (with_reducible refine LeO.ite ?_ ?_)
   | (with_reducible refine LeO.bind ?_ (fun _ => ?_))
   | exact ih0 _ _ _ _ _ _ _ _ _ _
   | exact ih1 _ _ _ _
   | exact deprec_Schedule.mono _ _ _ _ _ _ _ _
   | exact LeO.none _
   | refine LeO.ite ?_ ?_
   | refine LeO.bind ?_ (fun _ => ?_)
set_option maxHeartbeats 8000000 in
set_option maxRecDepth 100000 in
theorem deprec_After.calls (k : Nat) (a0_0 : Int) (a0_1 : Int) (a0_2 : Int) (a0_3 : Int) (a0_4 : Int) (a0_5 : Int) (A0_6 : Option Addr) (c0_6 : Nat) (l0_6 : List Int) (a1 : Int) (r1 : Int) (r2 : Int) (w : World) (hr0_6 : Kd.C (Kd.int .i64) w A0_6 l0_6.length l0_6) (hc0_6 : l0_6.length ≤ c0_6) (h : deprec_After.f k a0_0 a0_1 a0_2 a0_3 a0_4 a0_5 l0_6 a1 = some (r1, r2)) :
    Calls Try.prog 15 #[.agg #[.int .i64 a0_0, .int .i64 a0_1, .int .i64 a0_2, .int .i64 a0_3, .int .i64 a0_4, .int .i64 a0_5, .slice A0_6 l0_6.length c0_6], .int .i64 a1] w fun e w' => e = .returned (.tuple #[.int .i64 r1, .int .i64 r2]) ∧ Below w.heap.size w w' := by
 have hu26 := Try.underlying26; have hu3 := Try.underlying3; have HR0_6 := Aside0.mk hr0_6; have HC0_6 := Aside0.mk hc0_6; clear hr0_6 hc0_6; have HB := Aside0.mk (Below.refl w.heap.size w); have H : ((deprec_Schedule.f k a0_0 a0_1 a0_2 a0_3 a0_4 a0_5 l0_6).bind fun bt102 => (if bt102.2 = 0 then (if a1 < 0 then (deprec_After.j0 k a1 bt102.1 true a0_0 a0_1 a0_2 a0_3 a0_4 a0_5 l0_6) else (deprec_After.j0 k a1 bt102.1 (decide (a1 > a0_3)) a0_0 a0_1 a0_2 a0_3 a0_4 a0_5 l0_6)) else (some (0, bt102.2)))) = some (r1, r2) := h; clear h; replace H := Option.bind_eq_some_iff.mp H; obtain ⟨⟨t102, t105⟩, A30, H⟩ := H; replace H : (if t105 = 0 then (if a1 < 0 then (deprec_After.j0 k a1 t102 true a0_0 a0_1 a0_2 a0_3 a0_4 a0_5 l0_6) else (deprec_After.j0 k a1 t102 (decide (a1 > a0_3)) a0_0 a0_1 a0_2 a0_3 a0_4 a0_5 l0_6)) else (some (0, t105))) = some (r1, r2) := H; have A3 := Aside0.mk A30; clear A30
 by_cases c4 : t105 = 0
 ·rw [if_pos c4] at H; have c4b0 : (t105 == 0) = true := beq_iff_eq.mpr c4; have c4b1 : (t105 != 0) = false := bne_eq_false_iff_eq.mpr c4; clear c4; have HC5 := Aside0.mk H; clear H; go_enter Try.func15, Try.ntmps15
  go_upto_region 4 with (first | ((with_reducible refine gate_dst (N := 2) rfl ?_); refine box_event ?hg (N := 2) ?hd (cs := #[.int .i64 a0_0, .int .i64 a0_1, .int .i64 a0_2, .int .i64 a0_3, .int .i64 a0_4, .int .i64 a0_5, .slice A0_6 l0_6.length c0_6]) (t := 26) ?hr ?_; (case hd => rfl); (case hg => rfl); (case hr => first | (go_simp; done) | (go_simp; rfl)); intro gb101 hg w6 hbox hb; have n0_ := Aside0.mk (below_step pbb2_2 hb); have n1_ := Aside0.mk (hbox); have n2_ := Aside0.mk ((pbb2_3 : w.heap.size ≤ gb101)); have n3_ := Aside0.mk ((pbb2_3 : w.heap.size ≤ gb101)); clear HB; have HB := n0_; have BK101 := n1_; have GW101 := n2_; have GE101 := n3_; clear n0_ n1_ n2_ n3_; clear hb hbox hg; have hcz7_0 : w6.cell? ⟨gb101, 0, none⟩ = some (.int .i64 a0_0) := (blk_cell BK101.out 0).trans rfl; have hcz7_1 : w6.cell? ⟨gb101, 1, none⟩ = some (.int .i64 a0_1) := (blk_cell BK101.out 1).trans rfl; have hcz7_2 : w6.cell? ⟨gb101, 2, none⟩ = some (.int .i64 a0_2) := (blk_cell BK101.out 2).trans rfl; have hcz7_3 : w6.cell? ⟨gb101, 3, none⟩ = some (.int .i64 a0_3) := (blk_cell BK101.out 3).trans rfl; have hcz7_4 : w6.cell? ⟨gb101, 4, none⟩ = some (.int .i64 a0_4) := (blk_cell BK101.out 4).trans rfl; have hcz7_5 : w6.cell? ⟨gb101, 5, none⟩ = some (.int .i64 a0_5) := (blk_cell BK101.out 5).trans rfl; have hcz7_6 : w6.cell? ⟨gb101, 6, none⟩ = some (.slice A0_6 l0_6.length c0_6) := (blk_cell BK101.out 6).trans rfl; have hfz7_0 := blk_frozen BK101.out 0; have hfz7_1 := blk_frozen BK101.out 1; have hfz7_2 := blk_frozen BK101.out 2; have hfz7_3 := blk_frozen BK101.out 3; have hfz7_4 := blk_frozen BK101.out 4; have hfz7_5 := blk_frozen BK101.out 5; have hfz7_6 := blk_frozen BK101.out 6) | ((with_reducible refine gate_callee (f := 12) rfl ?_); refine goesL_ (some 11) rfl rfl Try.func12 (by kernel_rfl) rfl #[.agg #[.int .i64 a0_0, .int .i64 a0_1, .int .i64 a0_2, .int .i64 a0_3, .int .i64 a0_4, .int .i64 a0_5, .slice A0_6 l0_6.length c0_6]] rfl pbb3_0 ?_; (with_reducible refine (deprec_Schedule.calls k a0_0 a0_1 a0_2 a0_3 a0_4 a0_5 _ _ l0_6 t102 t105 _ ?side1 ?side2 A3.out).mono ?_); (case side1 => repeat (first | exact (Kd.C_below HR0_6.out HB.out) | (with_reducible refine Kd.C_alloc ?_ _) | (with_reducible refine Kd.C_drewN ?_ _) | (with_reducible refine Kd.C_drew ?_))); (case side2 => exact HC0_6.out); rintro e w8 ⟨v103, rfl, ho0, hb⟩; refine ⟨_, rfl, ?_⟩; have n0_ := Aside0.mk (Kd.R_lower ho0 (below_size pbb2_5)); have n1_ := Aside0.mk (blk_below (g := gb101) (o := .cells #[.int .i64 a0_0, .int .i64 a0_1, .int .i64 a0_2, .int .i64 a0_3, .int .i64 a0_4, .int .i64 a0_5, .slice A0_6 l0_6.length c0_6] 26 (0, 0)) pbb2_4 hb); have n2_ := Aside0.mk (below_step pbb2_5 hb); clear BK101; clear HB; have HO104 := n0_; have BK101 := n1_; have HB := n2_; clear n0_ n1_ n2_; (try clear hb); (try clear hb2); (try clear hk); (try clear hi); (try clear ho0)))
  (try simp only [Act.put, List.setIfInBounds_toArray, List.set_cons_zero, List.set_cons_succ])
  go_cut [24] (fun v24 wc => ∃ (kq : Nat) (x24_4 : Bool), v24 = .bool x24_4 ∧ Aside0 (deprec_After.j0 kq a1 t102 x24_4 a0_0 a0_1 a0_2 a0_3 a0_4 a0_5 l0_6 = some (r1, r2)) ∧ Aside0 (kq ≤ k) ∧ Aside0 (Kd.R (Kd.int .i64) 3 wc w.heap.size (fun _ => True) v103 t102) ∧ Aside0 (wc.heap[gb101]? = some (.cells #[.int .i64 a0_0, .int .i64 a0_1, .int .i64 a0_2, .int .i64 a0_3, .int .i64 a0_4, .int .i64 a0_5, (.slice A0_6 l0_6.length c0_6)] 26 (0, 0))) ∧ Aside0 (Below w.heap.size w wc))
  case first =>
   have H := HC5.out; clear HC5
   by_cases c9 : a1 < 0
   ·rw [if_pos c9] at H; have c9b0 : decide (a1 < 0) = true := decide_eq_true c9; clear c9; (first | rw [c9b0] | (simp only [i64_w, i32_w]; rw [c9b0]) | skip); have H' := Aside0.mk H; clear H
    go_wp2
    go_meet
    case rel => exact ⟨_, (true), pbb2_0, H', ⟨by first | omega | exact Nat.le_refl _⟩, ⟨by (with_reducible repeat (first | apply Kd.R_alloc | apply Kd.R_drewN | apply Kd.R_drew)); exact HO104.out⟩, ⟨pbb2_4⟩, ⟨pbb2_5⟩⟩
   ·rw [if_neg c9] at H; have c9b0 : decide (a1 < 0) = false := decide_eq_false c9; clear c9; (first | rw [c9b0] | (simp only [i64_w, i32_w]; rw [c9b0]) | skip); have H' := Aside0.mk H; clear H; have hcz10_0 : w8.cell? ⟨gb101, 0, none⟩ = some (.int .i64 a0_0) := (blk_cell BK101.out 0).trans rfl; have hcz10_1 : w8.cell? ⟨gb101, 1, none⟩ = some (.int .i64 a0_1) := (blk_cell BK101.out 1).trans rfl; have hcz10_2 : w8.cell? ⟨gb101, 2, none⟩ = some (.int .i64 a0_2) := (blk_cell BK101.out 2).trans rfl; have hcz10_3 : w8.cell? ⟨gb101, 3, none⟩ = some (.int .i64 a0_3) := (blk_cell BK101.out 3).trans rfl; have hcz10_4 : w8.cell? ⟨gb101, 4, none⟩ = some (.int .i64 a0_4) := (blk_cell BK101.out 4).trans rfl; have hcz10_5 : w8.cell? ⟨gb101, 5, none⟩ = some (.int .i64 a0_5) := (blk_cell BK101.out 5).trans rfl; have hcz10_6 : w8.cell? ⟨gb101, 6, none⟩ = some (.slice A0_6 l0_6.length c0_6) := (blk_cell BK101.out 6).trans rfl; have hfz10_0 := blk_frozen BK101.out 0; have hfz10_1 := blk_frozen BK101.out 1; have hfz10_2 := blk_frozen BK101.out 2; have hfz10_3 := blk_frozen BK101.out 3; have hfz10_4 := blk_frozen BK101.out 4; have hfz10_5 := blk_frozen BK101.out 5; have hfz10_6 := blk_frozen BK101.out 6
    go_wp2
    go_meet
    case rel => exact ⟨_, (decide (a1 > a0_3)), pbb2_0, H', ⟨by first | omega | exact Nat.le_refl _⟩, ⟨by (with_reducible repeat (first | apply Kd.R_alloc | apply Kd.R_drewN | apply Kd.R_drew)); exact HO104.out⟩, ⟨pbb2_4⟩, ⟨pbb2_5⟩⟩
  case rest =>
   clear HC5; (try clear c1); (try clear p2); (try clear c4); (try clear c4b0); (try clear c4b1); (try clear c9); (try clear c9b0); (try clear hcz10_0); (try clear hcz10_1); (try clear hcz10_2); (try clear hcz10_3); (try clear hcz10_4); (try clear hcz10_5); (try clear hcz10_6); (try clear hcz7_0); (try clear hcz7_1); (try clear hcz7_2); (try clear hcz7_3); (try clear hcz7_4); (try clear hcz7_5); (try clear hcz7_6); (try clear hfz10_0); (try clear hfz10_1); (try clear hfz10_2); (try clear hfz10_3); (try clear hfz10_4); (try clear hfz10_5); (try clear hfz10_6); (try clear hfz7_0); (try clear hfz7_1); (try clear hfz7_2); (try clear hfz7_3); (try clear hfz7_4); (try clear hfz7_5); (try clear hfz7_6); obtain ⟨kq, x24_4, rfl, HA, HJ4, HO_6, BK101, HB⟩ := hcut
   cases kq with
   | zero => exact absurd HA.out (by simp [deprec_After.j0])
   | succ kj4 =>
    have H := HA.out; clear HA; simp only [deprec_After.j0] at H
    by_cases c11 : x24_4 = true
    ·subst c11; have H1 : (some (0, 3)) = some (r1, r2) := by rw [if_pos rfl] at H; exact H
     clear H; have H := H1; clear H1; simp only [Option.some.injEq, Prod.mk.injEq] at H; obtain ⟨rfl, rfl⟩ := H
     go_wp2
     go_ret2
     exact ⟨pbb2_6, pbb2_5⟩
    ·replace c11 := Bool.eq_false_iff.mpr c11; subst c11; have H1 : (if 0 ≤ a1 then (if a1 ≤ (t102.length : Int) then ((some (t102.take (a1 : Int).toNat : List Int)).bind fun y106 => (deprec_After.l0 kj4 a0_1 y106 (y106.length : Int) 0)) else (none)) else (none)) = some (r1, r2) := by rw [if_neg (show ¬ (false = true) by decide)] at H; exact H
     clear H; have H := H1; clear H1
     by_cases c12 : 0 ≤ a1
     ·rw [if_pos c12] at H; have c12b0 := eq_true c12; have c12b1 : decide (0 ≤ a1) = true := decide_eq_true c12; clear c12
      by_cases c13 : a1 ≤ (t102.length : Int)
      ·rw [if_pos c13] at H; have c13b0 := eq_true c13; have c13b1 : decide (a1 ≤ (t102.length : Int)) = true := decide_eq_true c13; clear c13; obtain ⟨y106, hy106⟩ : ∃ y_ : List Int, y_ = (t102.take (a1 : Int).toNat) := ⟨_, rfl⟩; replace H : (deprec_After.l0 kj4 a0_1 y106 (y106.length : Int) 0) = some (r1, r2) := by first | (rw [hy106]; with_reducible exact H) | (have H2_ := (Option.bind_some _ _).symm.trans H; rw [hy106]; with_reducible exact H2_) | (have H2_ := (Option.bind_some _ _).symm.trans H; with_reducible exact H2_) | with_reducible exact H | (rw [hy106]; exact H) | exact H
       have Ny106 := Aside0.mk hy106; clear hy106; have H' := Aside0.mk H; clear H; have hcz14_0 : wc.cell? ⟨gb101, 0, none⟩ = some (.int .i64 a0_0) := (blk_cell BK101.out 0).trans rfl; have hcz14_1 : wc.cell? ⟨gb101, 1, none⟩ = some (.int .i64 a0_1) := (blk_cell BK101.out 1).trans rfl; have hcz14_2 : wc.cell? ⟨gb101, 2, none⟩ = some (.int .i64 a0_2) := (blk_cell BK101.out 2).trans rfl; have hcz14_3 : wc.cell? ⟨gb101, 3, none⟩ = some (.int .i64 a0_3) := (blk_cell BK101.out 3).trans rfl; have hcz14_4 : wc.cell? ⟨gb101, 4, none⟩ = some (.int .i64 a0_4) := (blk_cell BK101.out 4).trans rfl; have hcz14_5 : wc.cell? ⟨gb101, 5, none⟩ = some (.int .i64 a0_5) := (blk_cell BK101.out 5).trans rfl; have hcz14_6 : wc.cell? ⟨gb101, 6, none⟩ = some (.slice A0_6 l0_6.length c0_6) := (blk_cell BK101.out 6).trans rfl; have hfz14_0 := blk_frozen BK101.out 0; have hfz14_1 := blk_frozen BK101.out 1; have hfz14_2 := blk_frozen BK101.out 2; have hfz14_3 := blk_frozen BK101.out 3; have hfz14_4 := blk_frozen BK101.out 4; have hfz14_5 := blk_frozen BK101.out 5; have hfz14_6 := blk_frozen BK101.out 6; obtain ⟨Ao16, co16, eo16⟩ := Kd.R_slice HO_6.out; subst eo16; have q15 : (a1 : Int) ≤ ((t102.length : Int) : Int) := of_decide_eq_true pbb4_0; obtain ⟨i015, hi015, _, hsz15, _⟩ := info_parts info3; have hroom15 : t102.length ≤ co16 := (Kd.R_reads' HO_6.out).2.1; have hC15 : Kd.C (Kd.int .i64) _ Ao16 t102.length t102 := (Kd.R_reads' HO_6.out).2.2; have hcut15 := cut_to (P := Try.prog) 24 3 .i64 Try.underlying24 hi015 Ao16 t102.length co16 a1 (of_decide_eq_true pbb4_0) q15 hroom15; have hr15 := Kd.C_take (m := (a1 : Int).toNat) hC15 (by omega); have hy15 : y106.length = (a1 : Int).toNat := (by rw [Ny106.out, List.length_take]; omega); rw [← Ny106.out] at hr15; rw [← hy15] at hcut15; have HR109 := Aside0.mk hr15; have HC109 := Aside0.mk (show y106.length ≤ co16 from by omega); clear hr15 hC15 hroom15 hi015 hsz15; have KY15 := Aside0.mk hy15; clear hy15; have KL15 := Aside0.mk (show (a1 : Int).toNat ≤ t102.length from by omega); replace q15 := eq_true q15
       go_wp2
       go_loopg [4, 31] kj4 (fun kq v4 v31 w' => ∃ (x4_2 : Int) (x31_2 : Int), v4 = .int .i64 x4_2 ∧ v31 = .int .i64 x31_2 ∧ Aside0 (deprec_After.l0 kq x4_2 y106 (y106.length : Int) x31_2 = some (r1, r2)) ∧ Aside0 (kq ≤ kj4) ∧ Aside0 (w'.heap[gb101]? = some (.cells #[.int .i64 a0_0, .int .i64 a0_1, .int .i64 a0_2, .int .i64 a0_3, .int .i64 a0_4, .int .i64 a0_5, (.slice A0_6 l0_6.length c0_6)] 26 (0, 0))) ∧ Aside0 (Kd.C (Kd.int .i64) w' Ao16 y106.length y106) ∧ Aside0 (Below w.heap.size w w'))
       case atStart => exact ⟨(a0_1), (0), pbb2_0, pbb2_0, H', ⟨Nat.le_refl _⟩, ⟨pbb2_4⟩, ⟨pbb8_2⟩, ⟨pbb2_5⟩⟩
       case round =>
        clear H'; (try clear c1); (try clear q1); (try clear p2); (try clear c4); (try clear c4b0); (try clear c4b1); (try clear c9); (try clear c9b0); (try clear c11); (try clear c12); (try clear c12b0); (try clear c12b1); (try clear c13); (try clear c13b0); (try clear c13b1); (try clear c15); (try clear q15); (try clear hcz10_0); (try clear hcz10_1); (try clear hcz10_2); (try clear hcz10_3); (try clear hcz10_4); (try clear hcz10_5); (try clear hcz10_6); (try clear hcz14_0); (try clear hcz14_1); (try clear hcz14_2); (try clear hcz14_3); (try clear hcz14_4); (try clear hcz14_5); (try clear hcz14_6); (try clear hcz7_0); (try clear hcz7_1); (try clear hcz7_2); (try clear hcz7_3); (try clear hcz7_4); (try clear hcz7_5); (try clear hcz7_6); (try clear hfz10_0); (try clear hfz10_1); (try clear hfz10_2); (try clear hfz10_3); (try clear hfz10_4); (try clear hfz10_5); (try clear hfz10_6); (try clear hfz14_0); (try clear hfz14_1); (try clear hfz14_2); (try clear hfz14_3); (try clear hfz14_4); (try clear hfz14_5); (try clear hfz14_6); (try clear hfz7_0); (try clear hfz7_1); (try clear hfz7_2); (try clear hfz7_3); (try clear hfz7_4); (try clear hfz7_5); (try clear hfz7_6); (try clear p2); (try clear q15); obtain ⟨x4_2, x31_2, rfl, rfl, HA, HK2, BK101, HR109, HB⟩ := hrel
        cases gk with
        | zero => exact absurd HA.out (by simp [deprec_After.l0])
        | succ k2 =>
         have H := HA.out; clear HA; simp only [deprec_After.l0] at H
         by_cases c17 : x31_2 < (y106.length : Int)
         ·rw [if_pos c17] at H; have c17b0 : decide (x31_2 < (y106.length : Int)) = true := decide_eq_true c17; clear c17
          by_cases c18 : 0 ≤ x31_2
          ·rw [if_pos c18] at H; have c18b0 : decide (0 ≤ x31_2) = true := decide_eq_true c18; clear c18
           by_cases c19 : x31_2 < (y106.length : Int)
           ·rw [if_pos c19] at H; have c19b0 : decide (x31_2 < (y106.length : Int)) = true := decide_eq_true c19; clear c19; have H' := Aside0.mk H; clear H; have p110 : 0 ≤ (x31_2 : Int) := of_decide_eq_true pbb4_0; have q110 : x31_2 < (y106.length : Int) := of_decide_eq_true pbb4_0; obtain ⟨ad110, e110, hx110_0⟩ := Kd.at_int pbb8_2 x31_2 p110 q110
            cases e110
            replace p110 := eq_true p110; replace q110 := eq_true q110
            go_wp2
            go_roundg k2
            case measure => have := HJ4.out; have := HK2.out; omega
            case rel => exact ⟨(wrap64 (x4_2 - (rd y106 x31_2))), (wrap64 (x31_2 + 1)), pbb2_0, pbb2_0, H', ⟨by have := HJ4.out; have := HK2.out; omega⟩, ⟨pbb2_4⟩, ⟨pbb8_2⟩, ⟨pbb2_5⟩⟩
           ·rw [if_neg c19] at H; exact absurd H (by simp)
          ·rw [if_neg c18] at H; exact absurd H (by simp)
         ·rw [if_neg c17] at H; have c17b0 : decide (x31_2 < (y106.length : Int)) = false := decide_eq_false c17; clear c17; simp only [Option.some.injEq, Prod.mk.injEq] at H; obtain ⟨rfl, rfl⟩ := H
          go_wp2
          go_ret2
          exact ⟨pbb2_6, pbb2_5⟩
      ·rw [if_neg c13] at H; exact absurd H (by simp)
     ·rw [if_neg c12] at H; exact absurd H (by simp)
 ·rw [if_neg c4] at H; have c4b0 : (t105 == 0) = false := beq_eq_false_iff_ne.mpr c4; have c4b1 : (t105 != 0) = true := bne_iff_ne.mpr c4; simp only [Option.some.injEq, Prod.mk.injEq] at H; obtain ⟨rfl, rfl⟩ := H; go_enter Try.func15, Try.ntmps15
  go_wp2_with (first | ((with_reducible refine gate_dst (N := 2) rfl ?_); refine box_event ?hg (N := 2) ?hd (cs := #[.int .i64 a0_0, .int .i64 a0_1, .int .i64 a0_2, .int .i64 a0_3, .int .i64 a0_4, .int .i64 a0_5, .slice A0_6 l0_6.length c0_6]) (t := 26) ?hr ?_; (case hd => rfl); (case hg => rfl); (case hr => first | (go_simp; done) | (go_simp; rfl)); intro gb101 hg w20 hbox hb; have n0_ := Aside0.mk (below_step pbb2_2 hb); have n1_ := Aside0.mk (hbox); have n2_ := Aside0.mk ((pbb2_3 : w.heap.size ≤ gb101)); have n3_ := Aside0.mk ((pbb2_3 : w.heap.size ≤ gb101)); clear HB; have HB := n0_; have BK101 := n1_; have GW101 := n2_; have GE101 := n3_; clear n0_ n1_ n2_ n3_; clear hb hbox hg; have hcz21_0 : w20.cell? ⟨gb101, 0, none⟩ = some (.int .i64 a0_0) := (blk_cell BK101.out 0).trans rfl; have hcz21_1 : w20.cell? ⟨gb101, 1, none⟩ = some (.int .i64 a0_1) := (blk_cell BK101.out 1).trans rfl; have hcz21_2 : w20.cell? ⟨gb101, 2, none⟩ = some (.int .i64 a0_2) := (blk_cell BK101.out 2).trans rfl; have hcz21_3 : w20.cell? ⟨gb101, 3, none⟩ = some (.int .i64 a0_3) := (blk_cell BK101.out 3).trans rfl; have hcz21_4 : w20.cell? ⟨gb101, 4, none⟩ = some (.int .i64 a0_4) := (blk_cell BK101.out 4).trans rfl; have hcz21_5 : w20.cell? ⟨gb101, 5, none⟩ = some (.int .i64 a0_5) := (blk_cell BK101.out 5).trans rfl; have hcz21_6 : w20.cell? ⟨gb101, 6, none⟩ = some (.slice A0_6 l0_6.length c0_6) := (blk_cell BK101.out 6).trans rfl; have hfz21_0 := blk_frozen BK101.out 0; have hfz21_1 := blk_frozen BK101.out 1; have hfz21_2 := blk_frozen BK101.out 2; have hfz21_3 := blk_frozen BK101.out 3; have hfz21_4 := blk_frozen BK101.out 4; have hfz21_5 := blk_frozen BK101.out 5; have hfz21_6 := blk_frozen BK101.out 6) | ((with_reducible refine gate_callee (f := 12) rfl ?_); refine goesL_ (some 11) rfl rfl Try.func12 (by kernel_rfl) rfl #[.agg #[.int .i64 a0_0, .int .i64 a0_1, .int .i64 a0_2, .int .i64 a0_3, .int .i64 a0_4, .int .i64 a0_5, .slice A0_6 l0_6.length c0_6]] rfl pbb3_0 ?_; (with_reducible refine (deprec_Schedule.calls k a0_0 a0_1 a0_2 a0_3 a0_4 a0_5 _ _ l0_6 t102 t105 _ ?side1 ?side2 A3.out).mono ?_); (case side1 => repeat (first | exact (Kd.C_below HR0_6.out HB.out) | (with_reducible refine Kd.C_alloc ?_ _) | (with_reducible refine Kd.C_drewN ?_ _) | (with_reducible refine Kd.C_drew ?_))); (case side2 => exact HC0_6.out); rintro e w22 ⟨v103, rfl, ho0, hb⟩; refine ⟨_, rfl, ?_⟩; have n0_ := Aside0.mk (Kd.R_lower ho0 (below_size pbb2_5)); have n1_ := Aside0.mk (blk_below (g := gb101) (o := .cells #[.int .i64 a0_0, .int .i64 a0_1, .int .i64 a0_2, .int .i64 a0_3, .int .i64 a0_4, .int .i64 a0_5, .slice A0_6 l0_6.length c0_6] 26 (0, 0)) pbb2_4 hb); have n2_ := Aside0.mk (below_step pbb2_5 hb); clear BK101; clear HB; have HO104 := n0_; have BK101 := n1_; have HB := n2_; clear n0_ n1_ n2_; (try clear hb); (try clear hb2); (try clear hk); (try clear hi); (try clear ho0)))
  go_ret2
  exact ⟨pbb2_6, pbb2_5⟩
end Go.Proofs.Ytadognlkefhoiaa.M
end
