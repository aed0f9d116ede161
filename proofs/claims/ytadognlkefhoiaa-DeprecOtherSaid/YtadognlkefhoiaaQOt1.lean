/- The fraction matters to declining depreciation only, and the units to depreciation by usage only: under no condition. Part 1 of 1 of what is the claim's own. -/
import Derived.Test.YtadognlkefhoiaaQB8
import Derived.Test.YtadognlkefhoiaaQB9
import Derived.Test.YtadognlkefhoiaaRows
import Derived.WalkKit
import Derived.ProofKit
import Derived.OpenShut
import Derived.ShutString
import Derived.ChangeOld
import Derived.Below
import Derived.SizedLaws
section
/- The statement on the parts of a plan that matter to one method each: walked by hand, where it succeeds. -/
namespace Go.Proofs.Ytadognlkefhoiaa.M
open Go.RowKit Go.Proofs.YtadognlkefhoiaaW.PrintWords Go.Proofs.YtadognlkefhoiaaW.PrintLast Go.Proofs.YtadognlkefhoiaaW.PrintMore
set_option linter.unusedVariables false
set_option linter.unusedSimpArgs false
def accountinglaw30_DeprecOther.rest (k : Nat) (a0_0 a0_1 a0_2 a0_3 a0_4 a0_5 : Int) (l0_6 : List Int) (F0 F1 : Int) (lq : List Int) : Option Bool :=
  (deprec_Schedule.f k a0_0 a0_1 a0_2 a0_3 a0_4 a0_5 l0_6).bind fun s => (deprec_Schedule.f k a0_0 a0_1 a0_2 a0_3 F0 F1 lq).bind fun s' => (accountingref08_Same.f k s.1 s'.1).bind fun t =>
    (deprec_Check.f k a0_0 a0_1 a0_2 a0_3 a0_4 a0_5 l0_6).bind fun c => (deprec_Check.f k a0_0 a0_1 a0_2 a0_3 F0 F1 lq).bind fun c' => (accountinglaw30_lives.f k).bind fun v => if t = true ∧ s.2 = s'.2 ∧ c = c' ∧ v = true then some true else none
/-- Where the statement holds; where it does not, this is none. -/
def accountinglaw30_DeprecOther.f (k : Nat) (a0_0 a0_1 a0_2 a0_3 a0_4 a0_5 : Int) (l0_6 : List Int) (a1_0 a1_1 : Int) (l2 : List Int) : Option Bool :=
  if (l0_6.length : Int) > 250 ∨ (l2.length : Int) > 250 then (accountinglaw30_lives.f k).bind fun v => if v = true then some true else none
  else if a0_0 = 2 then accountinglaw30_DeprecOther.rest k a0_0 a0_1 a0_2 a0_3 a0_4 a0_5 l0_6 a0_4 a0_5 l2
  else if a0_0 = 4 then accountinglaw30_DeprecOther.rest k a0_0 a0_1 a0_2 a0_3 a0_4 a0_5 l0_6 a1_0 a1_1 l0_6
  else accountinglaw30_DeprecOther.rest k a0_0 a0_1 a0_2 a0_3 a0_4 a0_5 l0_6 a1_0 a1_1 l2
theorem plan2_S {W' W0 : World} {g h : Nat} {c0 c1 c2 c3 c4 c5 e0 e1 e2 e3 e4 e5 : Int} {sv tv : Value} (hp : PlanAt W' g c0 c1 c2 c3 c4 c5 sv) (hq : PlanAt W' h e0 e1 e2 e3 e4 e5 tv) (hB : Below W0.heap.size W0 W') : W'.cell? ⟨g, 0, none⟩ = some (.int .i64 c0) ∧ W'.cell? ⟨g, 1, none⟩ = some (.int .i64 c1) ∧ W'.cell? ⟨g, 2, none⟩ = some (.int .i64 c2) ∧ W'.cell? ⟨g, 3, none⟩ = some (.int .i64 c3) ∧ W'.cell? ⟨g, 4, none⟩ = some (.int .i64 c4) ∧ W'.cell? ⟨g, 5, none⟩ = some (.int .i64 c5) ∧ W'.cell? ⟨g, 6, none⟩ = some sv ∧ W'.cell? ⟨h, 0, none⟩ = some (.int .i64 e0) ∧ W'.cell? ⟨h, 1, none⟩ = some (.int .i64 e1) ∧ W'.cell? ⟨h, 2, none⟩ = some (.int .i64 e2) ∧ W'.cell? ⟨h, 3, none⟩ = some (.int .i64 e3) ∧ W'.cell? ⟨h, 4, none⟩ = some (.int .i64 e4) ∧ W'.cell? ⟨h, 5, none⟩ = some (.int .i64 e5) ∧ W'.cell? ⟨h, 6, none⟩ = some tv ∧ PlanAt W' g c0 c1 c2 c3 c4 c5 sv ∧ PlanAt W' h e0 e1 e2 e3 e4 e5 tv ∧ Below W0.heap.size W0 W' := by
  obtain ⟨p0, p1, p2, p3, p4, p5, p6⟩ := plan_cells hp
  obtain ⟨q0, q1, q2, q3, q4, q5, q6⟩ := plan_cells hq
  exact ⟨p0, p1, p2, p3, p4, p5, p6, q0, q1, q2, q3, q4, q5, q6, hp, hq, hB⟩
theorem plan2_hS {W' W0 : World} {g h : Nat} {c0 c1 c2 c3 c4 c5 e0 e1 e2 e3 e4 e5 : Int} {sv tv : Value} {P0 P1 P2 P3 P4 P5 P6 P7 P8 P9 P10 P11 P12 P13 : Prop} (h0 : P0 ∧ P1 ∧ P2 ∧ P3 ∧ P4 ∧ P5 ∧ P6 ∧ P7 ∧ P8 ∧ P9 ∧ P10 ∧ P11 ∧ P12 ∧ P13 ∧ PlanAt W' g c0 c1 c2 c3 c4 c5 sv ∧ PlanAt W' h e0 e1 e2 e3 e4 e5 tv ∧ Below W0.heap.size W0 W') : PlanAt W' g c0 c1 c2 c3 c4 c5 sv ∧ PlanAt W' h e0 e1 e2 e3 e4 e5 tv ∧ Below W0.heap.size W0 W' := h0.2.2.2.2.2.2.2.2.2.2.2.2.2.2
set_option maxHeartbeats 8000000 in
set_option maxRecDepth 100000 in
theorem accountinglaw30_DeprecOther.calls (k : Nat) (a0_0 a0_1 a0_2 a0_3 a0_4 a0_5 : Int) (A0_6 : Option Addr) (c0_6 : Nat) (l0_6 : List Int) (a1_0 a1_1 : Int) (A2 : Option Addr) (c2 : Nat) (l2 : List Int) (r : Bool) (w : World) (hr0_6 : Kd.C (Kd.int .i64) w A0_6 l0_6.length l0_6) (hc0_6 : l0_6.length ≤ c0_6) (hr2 : Kd.C (Kd.int .i64) w A2 l2.length l2) (hc2 : l2.length ≤ c2) (h : accountinglaw30_DeprecOther.f k a0_0 a0_1 a0_2 a0_3 a0_4 a0_5 l0_6 a1_0 a1_1 l2 = some r) :
    Calls Try.prog 8 #[.agg #[.int .i64 a0_0, .int .i64 a0_1, .int .i64 a0_2, .int .i64 a0_3, .int .i64 a0_4, .int .i64 a0_5, .slice A0_6 l0_6.length c0_6], .agg #[.int .i64 a1_0, .int .i64 a1_1], .slice A2 l2.length c2] w fun e w' => e = .returned (.bool r) ∧ Below w.heap.size w w' := by
  have HR := Aside0.mk hr0_6
  have HC := Aside0.mk hc0_6
  have HR2 := Aside0.mk hr2
  have HC2 := Aside0.mk hc2
  clear hr0_6 hc0_6 hr2 hc2
  unfold accountinglaw30_DeprecOther.f at h
  by_cases c : (l0_6.length : Int) > 250 ∨ (l2.length : Int) > 250
  · rw [if_pos c] at h
    obtain ⟨v, hv, h⟩ := Option.bind_eq_some_iff.mp h
    cases v with
    | false => simp at h
    | true =>
      simp at h
      subst h
      have HV := Aside0.mk hv
      clear hv
      by_cases d : (250 : Int) < (l0_6.length : Int)
      · have d1 : decide ((250 : Nat) < l0_6.length) = true := decide_eq_true (by omega)
        have d2 : decide ((250 : Int) < (l0_6.length : Int)) = true := decide_eq_true d
        have d3 : (250 : Nat) < l0_6.length := by omega
        clear c
        go_enter Try.func8, Try.ntmps8
        go_wp2_with (first | (go_at_call 9; (with_reducible refine (accountinglaw30_lives.calls k true _ HV.out).mono ?_); rintro e W1 ⟨rfl, hb1⟩))
        go_ret
        exact ⟨rfl, below_then ((((Below.refl _ _).alloc (Nat.le_refl _) _).alloc (by simp) _)) (by simp; omega) hb1⟩
      · have d4 : (250 : Int) < (l2.length : Int) := by omega
        have d1 : decide ((250 : Nat) < l0_6.length) = false := decide_eq_false (by omega)
        have d2 : decide ((250 : Int) < (l0_6.length : Int)) = false := decide_eq_false d
        have d3 : ¬ (250 : Nat) < l0_6.length := by omega
        have d5 : decide ((250 : Nat) < l2.length) = true := decide_eq_true (by omega)
        have d6 : decide ((250 : Int) < (l2.length : Int)) = true := decide_eq_true d4
        have d7 : (250 : Nat) < l2.length := by omega
        clear c
        go_enter Try.func8, Try.ntmps8
        go_wp2_with (first | (go_at_call 9; (with_reducible refine (accountinglaw30_lives.calls k true _ HV.out).mono ?_); rintro e W1 ⟨rfl, hb1⟩))
        go_ret
        exact ⟨rfl, below_then ((((Below.refl _ _).alloc (Nat.le_refl _) _).alloc (by simp) _)) (by simp; omega) hb1⟩
  · rw [if_neg c] at h
    have c0 := c
    clear c
    by_cases m2 : a0_0 = 2
    · rw [if_pos m2] at h
      have m4 : ¬ a0_0 = 4 := by omega
      unfold accountinglaw30_DeprecOther.rest at h
      obtain ⟨⟨r1, e1⟩, h1, z1⟩ := Option.bind_eq_some_iff.mp h
      obtain ⟨⟨r2, e2⟩, h2, z2⟩ := Option.bind_eq_some_iff.mp z1
      obtain ⟨t, h3, z3⟩ := Option.bind_eq_some_iff.mp z2
      obtain ⟨c, h4, z4⟩ := Option.bind_eq_some_iff.mp z3
      obtain ⟨c', h5, z5⟩ := Option.bind_eq_some_iff.mp z4
      obtain ⟨v, h6, z6⟩ := Option.bind_eq_some_iff.mp z5
      clear h z1 z2 z3 z4 z5
      split at z6
      · rename_i hh
        obtain ⟨rfl, he, rfl, rfl⟩ := hh
        simp only at he
        subst he
        injection z6 with z6
        subst z6
        have H1 := Aside0.mk h1
        have H2 := Aside0.mk h2
        have H3 := Aside0.mk h3
        have H4 := Aside0.mk h4
        have H5 := Aside0.mk h5
        have H6 := Aside0.mk h6
        clear h1 h2 h3 h4 h5 h6
        have HP0 := Aside0.mk (blk_alloc (blk_alloc (blk_new w (.cells #[.int .i64 a0_0, .int .i64 a0_1, .int .i64 a0_2, .int .i64 a0_3, .int .i64 a0_4, .int .i64 a0_5, .slice A0_6 l0_6.length c0_6] 26)) (.cells #[.int .i64 a1_0, .int .i64 a1_1] 23)) (.cells #[.int .i64 a0_0, .int .i64 a0_1, .int .i64 a0_2, .int .i64 a0_3, .int .i64 a0_4, .int .i64 a0_5, .slice A2 l2.length c2] 26))
        have HQ0 : Aside0 ((((w.alloc (.cells #[.int .i64 a0_0, .int .i64 a0_1, .int .i64 a0_2, .int .i64 a0_3, .int .i64 a0_4, .int .i64 a0_5, .slice A0_6 l0_6.length c0_6] 26)).alloc (.cells #[.int .i64 a1_0, .int .i64 a1_1] 23)).alloc (.cells #[.int .i64 a0_0, .int .i64 a0_1, .int .i64 a0_2, .int .i64 a0_3, .int .i64 a0_4, .int .i64 a0_5, .slice A2 l2.length c2] 26)).heap[w.heap.size + 1 + 1]? = some (.cells #[.int .i64 a0_0, .int .i64 a0_1, .int .i64 a0_2, .int .i64 a0_3, .int .i64 a0_4, .int .i64 a0_5, .slice A2 l2.length c2] 26 (0, 0))) := ⟨by
          have z := blk_new ((w.alloc (.cells #[.int .i64 a0_0, .int .i64 a0_1, .int .i64 a0_2, .int .i64 a0_3, .int .i64 a0_4, .int .i64 a0_5, .slice A0_6 l0_6.length c0_6] 26)).alloc (.cells #[.int .i64 a1_0, .int .i64 a1_1] 23)) (.cells #[.int .i64 a0_0, .int .i64 a0_1, .int .i64 a0_2, .int .i64 a0_3, .int .i64 a0_4, .int .i64 a0_5, .slice A2 l2.length c2] 26)
          simpa using z⟩
        have HB0 := Aside0.mk ((((Below.refl w.heap.size w).alloc (Nat.le_refl _) (.cells #[.int .i64 a0_0, .int .i64 a0_1, .int .i64 a0_2, .int .i64 a0_3, .int .i64 a0_4, .int .i64 a0_5, .slice A0_6 l0_6.length c0_6] 26)).alloc (by simp) (.cells #[.int .i64 a1_0, .int .i64 a1_1] 23)).alloc (by simp; omega) (.cells #[.int .i64 a0_0, .int .i64 a0_1, .int .i64 a0_2, .int .i64 a0_3, .int .i64 a0_4, .int .i64 a0_5, .slice A2 l2.length c2] 26))
        have d1 : decide ((250 : Nat) < l0_6.length) = false := decide_eq_false (by omega)
        have d2 : decide ((250 : Int) < (l0_6.length : Int)) = false := decide_eq_false (by omega)
        have d3 : ¬ (250 : Nat) < l0_6.length := by omega
        have d5 : decide ((250 : Nat) < l2.length) = false := decide_eq_false (by omega)
        have d6 : decide ((250 : Int) < (l2.length : Int)) = false := decide_eq_false (by omega)
        have d7 : ¬ (250 : Nat) < l2.length := by omega
        clear c0
        have b2 : (a0_0 == 2) = true := beq_iff_eq.mpr m2
        have n2 : (a0_0 != 2) = false := by rw [bne, b2]; rfl
        clear m2
        have b4 : (a0_0 == 4) = false := beq_eq_false_iff_ne.mpr m4
        have n4 : (a0_0 != 4) = true := bne_iff_ne.mpr m4
        clear m4
        go_enter Try.func8, Try.ntmps8
        go_wp2_with (first
          | (go_at_call 12; (with_reducible refine (deprec_Schedule.calls k a0_0 a0_1 a0_2 a0_3 a0_4 a0_5 A0_6 c0_6 l0_6 r1 e1 _ (Kd.C_below HR.out HB0.out) HC.out H1.out).mono ?_); rintro e W1 ⟨v1, rfl, hR1, hb1⟩; have HP1 := Aside0.mk (blk_below HP0.out hb1); have HQ1 := Aside0.mk (blk_below HQ0.out hb1); have HB1 := Aside0.mk (below_then HB0.out HB0.out.size hb1); have HR1 := Aside0.mk hR1; obtain ⟨q0, q1, q2, q3, q4, q5, q6⟩ := plan_cells HQ1.out; clear hb1 hR1)
          | (go_at_call 12; (with_reducible refine (deprec_Schedule.calls k a0_0 a0_1 a0_2 a0_3 a0_4 a0_5 A2 c2 l2 r2 e1 _ (Kd.C_below HR2.out HB1.out) HC2.out H2.out).mono ?_); rintro e W2 ⟨v2, rfl, hR2, hb2⟩; have HP2 := Aside0.mk (blk_below HP1.out hb2); have HQ2 := Aside0.mk (blk_below HQ1.out hb2); have HB2 := Aside0.mk (below_then HB1.out HB1.out.size hb2); obtain ⟨B1, k1, rfl, hk1, hC1⟩ := Kd.R_reads (Kd.R_below HR1.out hb2); obtain ⟨B2, k2, rfl, hk2, hC2⟩ := Kd.R_reads hR2; have HC1 := Aside0.mk hC1; have HD2 := Aside0.mk hC2; have HK1 := Aside0.mk hk1; have HK2 := Aside0.mk hk2; clear hb2 hR2 hC1 hC2 hk1 hk2 q0 q1 q2 q3 q4 q5 q6))
        go_region_held3 (fun W' => W'.cell? ⟨w.heap.size, 0, none⟩ = some (.int .i64 a0_0) ∧ W'.cell? ⟨w.heap.size, 1, none⟩ = some (.int .i64 a0_1) ∧ W'.cell? ⟨w.heap.size, 2, none⟩ = some (.int .i64 a0_2) ∧ W'.cell? ⟨w.heap.size, 3, none⟩ = some (.int .i64 a0_3) ∧ W'.cell? ⟨w.heap.size, 4, none⟩ = some (.int .i64 a0_4) ∧ W'.cell? ⟨w.heap.size, 5, none⟩ = some (.int .i64 a0_5) ∧ W'.cell? ⟨w.heap.size, 6, none⟩ = some (.slice A0_6 l0_6.length c0_6) ∧ W'.cell? ⟨w.heap.size + 1 + 1, 0, none⟩ = some (.int .i64 a0_0) ∧ W'.cell? ⟨w.heap.size + 1 + 1, 1, none⟩ = some (.int .i64 a0_1) ∧ W'.cell? ⟨w.heap.size + 1 + 1, 2, none⟩ = some (.int .i64 a0_2) ∧ W'.cell? ⟨w.heap.size + 1 + 1, 3, none⟩ = some (.int .i64 a0_3) ∧ W'.cell? ⟨w.heap.size + 1 + 1, 4, none⟩ = some (.int .i64 a0_4) ∧ W'.cell? ⟨w.heap.size + 1 + 1, 5, none⟩ = some (.int .i64 a0_5) ∧ W'.cell? ⟨w.heap.size + 1 + 1, 6, none⟩ = some (.slice A2 l2.length c2) ∧ PlanAt W' w.heap.size a0_0 a0_1 a0_2 a0_3 a0_4 a0_5 (.slice A0_6 l0_6.length c0_6) ∧ PlanAt W' (w.heap.size + 1 + 1) a0_0 a0_1 a0_2 a0_3 a0_4 a0_5 (.slice A2 l2.length c2) ∧ Below W2.heap.size W2 W')
          (first | exact plan2_S HP2.out HQ2.out (below_drew (Below.refl _ _)) | exact plan2_S (blk_below hSW.1 hb') (blk_below hSW.2.1 hb') (below_then hSW.2.2 hSW.2.2.size hb'))
          (first
            | (go_at_call 14; have hSW := plan2_hS (W0 := W2) (g := w.heap.size) (h := w.heap.size + 1 + 1) (by assumption); (with_reducible refine (accountingref08_Same.calls k B1 k1 r1 B2 k2 r2 true _ (Kd.C_below HC1.out hSW.2.2) HK1.out (Kd.C_below HD2.out hSW.2.2) HK2.out H3.out).mono ?_); rintro e W3 ⟨rfl, hd3⟩; have hb' := hd3.below)
            | (go_at_call 10; have hSW := plan2_hS (W0 := W2) (g := w.heap.size) (h := w.heap.size + 1 + 1) (by assumption); (with_reducible refine (deprec_Check.calls k a0_0 a0_1 a0_2 a0_3 a0_4 a0_5 A0_6 c0_6 l0_6 c _ (Kd.C_below HR.out (below_then HB2.out HB2.out.size hSW.2.2)) HC.out H4.out).mono ?_); rintro e W3 ⟨rfl, hb'⟩)
            | (go_at_call 10; have hSW := plan2_hS (W0 := W2) (g := w.heap.size) (h := w.heap.size + 1 + 1) (by assumption); (with_reducible refine (deprec_Check.calls k a0_0 a0_1 a0_2 a0_3 a0_4 a0_5 A2 c2 l2 c _ (Kd.C_below HR2.out (below_then HB2.out HB2.out.size hSW.2.2)) HC2.out H5.out).mono ?_); rintro e W3 ⟨rfl, hb'⟩)
            | (go_at_call 9; have hSW := plan2_hS (W0 := W2) (g := w.heap.size) (h := w.heap.size + 1 + 1) (by assumption); (with_reducible refine (accountinglaw30_lives.calls k true _ H6.out).mono ?_); rintro e W3 ⟨rfl, hb'⟩))
        go_wp2
        rename_i hS
        go_ret
        exact ⟨by first | rfl | simp, below_then HB2.out HB2.out.size (plan2_hS hS).2.2⟩
      · cases z6
    · rw [if_neg m2] at h
      by_cases m4 : a0_0 = 4
      · rw [if_pos m4] at h
        unfold accountinglaw30_DeprecOther.rest at h
        obtain ⟨⟨r1, e1⟩, h1, z1⟩ := Option.bind_eq_some_iff.mp h
        obtain ⟨⟨r2, e2⟩, h2, z2⟩ := Option.bind_eq_some_iff.mp z1
        obtain ⟨t, h3, z3⟩ := Option.bind_eq_some_iff.mp z2
        obtain ⟨c, h4, z4⟩ := Option.bind_eq_some_iff.mp z3
        obtain ⟨c', h5, z5⟩ := Option.bind_eq_some_iff.mp z4
        obtain ⟨v, h6, z6⟩ := Option.bind_eq_some_iff.mp z5
        clear h z1 z2 z3 z4 z5
        split at z6
        · rename_i hh
          obtain ⟨rfl, he, rfl, rfl⟩ := hh
          simp only at he
          subst he
          injection z6 with z6
          subst z6
          have H1 := Aside0.mk h1
          have H2 := Aside0.mk h2
          have H3 := Aside0.mk h3
          have H4 := Aside0.mk h4
          have H5 := Aside0.mk h5
          have H6 := Aside0.mk h6
          clear h1 h2 h3 h4 h5 h6
          have HP0 := Aside0.mk (blk_alloc (blk_alloc (blk_new w (.cells #[.int .i64 a0_0, .int .i64 a0_1, .int .i64 a0_2, .int .i64 a0_3, .int .i64 a0_4, .int .i64 a0_5, .slice A0_6 l0_6.length c0_6] 26)) (.cells #[.int .i64 a1_0, .int .i64 a1_1] 23)) (.cells #[.int .i64 a0_0, .int .i64 a0_1, .int .i64 a0_2, .int .i64 a0_3, .int .i64 a1_0, .int .i64 a1_1, .slice A0_6 l0_6.length c0_6] 26))
          have HQ0 : Aside0 ((((w.alloc (.cells #[.int .i64 a0_0, .int .i64 a0_1, .int .i64 a0_2, .int .i64 a0_3, .int .i64 a0_4, .int .i64 a0_5, .slice A0_6 l0_6.length c0_6] 26)).alloc (.cells #[.int .i64 a1_0, .int .i64 a1_1] 23)).alloc (.cells #[.int .i64 a0_0, .int .i64 a0_1, .int .i64 a0_2, .int .i64 a0_3, .int .i64 a1_0, .int .i64 a1_1, .slice A0_6 l0_6.length c0_6] 26)).heap[w.heap.size + 1 + 1]? = some (.cells #[.int .i64 a0_0, .int .i64 a0_1, .int .i64 a0_2, .int .i64 a0_3, .int .i64 a1_0, .int .i64 a1_1, .slice A0_6 l0_6.length c0_6] 26 (0, 0))) := ⟨by
            have z := blk_new ((w.alloc (.cells #[.int .i64 a0_0, .int .i64 a0_1, .int .i64 a0_2, .int .i64 a0_3, .int .i64 a0_4, .int .i64 a0_5, .slice A0_6 l0_6.length c0_6] 26)).alloc (.cells #[.int .i64 a1_0, .int .i64 a1_1] 23)) (.cells #[.int .i64 a0_0, .int .i64 a0_1, .int .i64 a0_2, .int .i64 a0_3, .int .i64 a1_0, .int .i64 a1_1, .slice A0_6 l0_6.length c0_6] 26)
            simpa using z⟩
          have HB0 := Aside0.mk ((((Below.refl w.heap.size w).alloc (Nat.le_refl _) (.cells #[.int .i64 a0_0, .int .i64 a0_1, .int .i64 a0_2, .int .i64 a0_3, .int .i64 a0_4, .int .i64 a0_5, .slice A0_6 l0_6.length c0_6] 26)).alloc (by simp) (.cells #[.int .i64 a1_0, .int .i64 a1_1] 23)).alloc (by simp; omega) (.cells #[.int .i64 a0_0, .int .i64 a0_1, .int .i64 a0_2, .int .i64 a0_3, .int .i64 a1_0, .int .i64 a1_1, .slice A0_6 l0_6.length c0_6] 26))
          have d1 : decide ((250 : Nat) < l0_6.length) = false := decide_eq_false (by omega)
          have d2 : decide ((250 : Int) < (l0_6.length : Int)) = false := decide_eq_false (by omega)
          have d3 : ¬ (250 : Nat) < l0_6.length := by omega
          have d5 : decide ((250 : Nat) < l2.length) = false := decide_eq_false (by omega)
          have d6 : decide ((250 : Int) < (l2.length : Int)) = false := decide_eq_false (by omega)
          have d7 : ¬ (250 : Nat) < l2.length := by omega
          clear c0
          have b2 : (a0_0 == 2) = false := beq_eq_false_iff_ne.mpr m2
          have n2 : (a0_0 != 2) = true := bne_iff_ne.mpr m2
          clear m2
          have b4 : (a0_0 == 4) = true := beq_iff_eq.mpr m4
          have n4 : (a0_0 != 4) = false := by rw [bne, b4]; rfl
          clear m4
          go_enter Try.func8, Try.ntmps8
          go_wp2_with (first
            | (go_at_call 12; (with_reducible refine (deprec_Schedule.calls k a0_0 a0_1 a0_2 a0_3 a0_4 a0_5 A0_6 c0_6 l0_6 r1 e1 _ (Kd.C_below HR.out HB0.out) HC.out H1.out).mono ?_); rintro e W1 ⟨v1, rfl, hR1, hb1⟩; have HP1 := Aside0.mk (blk_below HP0.out hb1); have HQ1 := Aside0.mk (blk_below HQ0.out hb1); have HB1 := Aside0.mk (below_then HB0.out HB0.out.size hb1); have HR1 := Aside0.mk hR1; obtain ⟨q0, q1, q2, q3, q4, q5, q6⟩ := plan_cells HQ1.out; clear hb1 hR1)
            | (go_at_call 12; (with_reducible refine (deprec_Schedule.calls k a0_0 a0_1 a0_2 a0_3 a1_0 a1_1 A0_6 c0_6 l0_6 r2 e1 _ (Kd.C_below HR.out HB1.out) HC.out H2.out).mono ?_); rintro e W2 ⟨v2, rfl, hR2, hb2⟩; have HP2 := Aside0.mk (blk_below HP1.out hb2); have HQ2 := Aside0.mk (blk_below HQ1.out hb2); have HB2 := Aside0.mk (below_then HB1.out HB1.out.size hb2); obtain ⟨B1, k1, rfl, hk1, hC1⟩ := Kd.R_reads (Kd.R_below HR1.out hb2); obtain ⟨B2, k2, rfl, hk2, hC2⟩ := Kd.R_reads hR2; have HC1 := Aside0.mk hC1; have HD2 := Aside0.mk hC2; have HK1 := Aside0.mk hk1; have HK2 := Aside0.mk hk2; clear hb2 hR2 hC1 hC2 hk1 hk2 q0 q1 q2 q3 q4 q5 q6))
          go_region_held3 (fun W' => W'.cell? ⟨w.heap.size, 0, none⟩ = some (.int .i64 a0_0) ∧ W'.cell? ⟨w.heap.size, 1, none⟩ = some (.int .i64 a0_1) ∧ W'.cell? ⟨w.heap.size, 2, none⟩ = some (.int .i64 a0_2) ∧ W'.cell? ⟨w.heap.size, 3, none⟩ = some (.int .i64 a0_3) ∧ W'.cell? ⟨w.heap.size, 4, none⟩ = some (.int .i64 a0_4) ∧ W'.cell? ⟨w.heap.size, 5, none⟩ = some (.int .i64 a0_5) ∧ W'.cell? ⟨w.heap.size, 6, none⟩ = some (.slice A0_6 l0_6.length c0_6) ∧ W'.cell? ⟨w.heap.size + 1 + 1, 0, none⟩ = some (.int .i64 a0_0) ∧ W'.cell? ⟨w.heap.size + 1 + 1, 1, none⟩ = some (.int .i64 a0_1) ∧ W'.cell? ⟨w.heap.size + 1 + 1, 2, none⟩ = some (.int .i64 a0_2) ∧ W'.cell? ⟨w.heap.size + 1 + 1, 3, none⟩ = some (.int .i64 a0_3) ∧ W'.cell? ⟨w.heap.size + 1 + 1, 4, none⟩ = some (.int .i64 a1_0) ∧ W'.cell? ⟨w.heap.size + 1 + 1, 5, none⟩ = some (.int .i64 a1_1) ∧ W'.cell? ⟨w.heap.size + 1 + 1, 6, none⟩ = some (.slice A0_6 l0_6.length c0_6) ∧ PlanAt W' w.heap.size a0_0 a0_1 a0_2 a0_3 a0_4 a0_5 (.slice A0_6 l0_6.length c0_6) ∧ PlanAt W' (w.heap.size + 1 + 1) a0_0 a0_1 a0_2 a0_3 a1_0 a1_1 (.slice A0_6 l0_6.length c0_6) ∧ Below W2.heap.size W2 W')
            (first | exact plan2_S HP2.out HQ2.out (below_drew (Below.refl _ _)) | exact plan2_S (blk_below hSW.1 hb') (blk_below hSW.2.1 hb') (below_then hSW.2.2 hSW.2.2.size hb'))
            (first
              | (go_at_call 14; have hSW := plan2_hS (W0 := W2) (g := w.heap.size) (h := w.heap.size + 1 + 1) (by assumption); (with_reducible refine (accountingref08_Same.calls k B1 k1 r1 B2 k2 r2 true _ (Kd.C_below HC1.out hSW.2.2) HK1.out (Kd.C_below HD2.out hSW.2.2) HK2.out H3.out).mono ?_); rintro e W3 ⟨rfl, hd3⟩; have hb' := hd3.below)
              | (go_at_call 10; have hSW := plan2_hS (W0 := W2) (g := w.heap.size) (h := w.heap.size + 1 + 1) (by assumption); (with_reducible refine (deprec_Check.calls k a0_0 a0_1 a0_2 a0_3 a0_4 a0_5 A0_6 c0_6 l0_6 c _ (Kd.C_below HR.out (below_then HB2.out HB2.out.size hSW.2.2)) HC.out H4.out).mono ?_); rintro e W3 ⟨rfl, hb'⟩)
              | (go_at_call 10; have hSW := plan2_hS (W0 := W2) (g := w.heap.size) (h := w.heap.size + 1 + 1) (by assumption); (with_reducible refine (deprec_Check.calls k a0_0 a0_1 a0_2 a0_3 a1_0 a1_1 A0_6 c0_6 l0_6 c _ (Kd.C_below HR.out (below_then HB2.out HB2.out.size hSW.2.2)) HC.out H5.out).mono ?_); rintro e W3 ⟨rfl, hb'⟩)
              | (go_at_call 9; have hSW := plan2_hS (W0 := W2) (g := w.heap.size) (h := w.heap.size + 1 + 1) (by assumption); (with_reducible refine (accountinglaw30_lives.calls k true _ H6.out).mono ?_); rintro e W3 ⟨rfl, hb'⟩))
          go_wp2
          rename_i hS
          go_ret
          exact ⟨by first | rfl | simp, below_then HB2.out HB2.out.size (plan2_hS hS).2.2⟩
        · cases z6
      · rw [if_neg m4] at h
        unfold accountinglaw30_DeprecOther.rest at h
        obtain ⟨⟨r1, e1⟩, h1, z1⟩ := Option.bind_eq_some_iff.mp h
        obtain ⟨⟨r2, e2⟩, h2, z2⟩ := Option.bind_eq_some_iff.mp z1
        obtain ⟨t, h3, z3⟩ := Option.bind_eq_some_iff.mp z2
        obtain ⟨c, h4, z4⟩ := Option.bind_eq_some_iff.mp z3
        obtain ⟨c', h5, z5⟩ := Option.bind_eq_some_iff.mp z4
        obtain ⟨v, h6, z6⟩ := Option.bind_eq_some_iff.mp z5
        clear h z1 z2 z3 z4 z5
        split at z6
        · rename_i hh
          obtain ⟨rfl, he, rfl, rfl⟩ := hh
          simp only at he
          subst he
          injection z6 with z6
          subst z6
          have H1 := Aside0.mk h1
          have H2 := Aside0.mk h2
          have H3 := Aside0.mk h3
          have H4 := Aside0.mk h4
          have H5 := Aside0.mk h5
          have H6 := Aside0.mk h6
          clear h1 h2 h3 h4 h5 h6
          have HP0 := Aside0.mk (blk_alloc (blk_alloc (blk_new w (.cells #[.int .i64 a0_0, .int .i64 a0_1, .int .i64 a0_2, .int .i64 a0_3, .int .i64 a0_4, .int .i64 a0_5, .slice A0_6 l0_6.length c0_6] 26)) (.cells #[.int .i64 a1_0, .int .i64 a1_1] 23)) (.cells #[.int .i64 a0_0, .int .i64 a0_1, .int .i64 a0_2, .int .i64 a0_3, .int .i64 a1_0, .int .i64 a1_1, .slice A2 l2.length c2] 26))
          have HQ0 : Aside0 ((((w.alloc (.cells #[.int .i64 a0_0, .int .i64 a0_1, .int .i64 a0_2, .int .i64 a0_3, .int .i64 a0_4, .int .i64 a0_5, .slice A0_6 l0_6.length c0_6] 26)).alloc (.cells #[.int .i64 a1_0, .int .i64 a1_1] 23)).alloc (.cells #[.int .i64 a0_0, .int .i64 a0_1, .int .i64 a0_2, .int .i64 a0_3, .int .i64 a1_0, .int .i64 a1_1, .slice A2 l2.length c2] 26)).heap[w.heap.size + 1 + 1]? = some (.cells #[.int .i64 a0_0, .int .i64 a0_1, .int .i64 a0_2, .int .i64 a0_3, .int .i64 a1_0, .int .i64 a1_1, .slice A2 l2.length c2] 26 (0, 0))) := ⟨by
            have z := blk_new ((w.alloc (.cells #[.int .i64 a0_0, .int .i64 a0_1, .int .i64 a0_2, .int .i64 a0_3, .int .i64 a0_4, .int .i64 a0_5, .slice A0_6 l0_6.length c0_6] 26)).alloc (.cells #[.int .i64 a1_0, .int .i64 a1_1] 23)) (.cells #[.int .i64 a0_0, .int .i64 a0_1, .int .i64 a0_2, .int .i64 a0_3, .int .i64 a1_0, .int .i64 a1_1, .slice A2 l2.length c2] 26)
            simpa using z⟩
          have HB0 := Aside0.mk ((((Below.refl w.heap.size w).alloc (Nat.le_refl _) (.cells #[.int .i64 a0_0, .int .i64 a0_1, .int .i64 a0_2, .int .i64 a0_3, .int .i64 a0_4, .int .i64 a0_5, .slice A0_6 l0_6.length c0_6] 26)).alloc (by simp) (.cells #[.int .i64 a1_0, .int .i64 a1_1] 23)).alloc (by simp; omega) (.cells #[.int .i64 a0_0, .int .i64 a0_1, .int .i64 a0_2, .int .i64 a0_3, .int .i64 a1_0, .int .i64 a1_1, .slice A2 l2.length c2] 26))
          have d1 : decide ((250 : Nat) < l0_6.length) = false := decide_eq_false (by omega)
          have d2 : decide ((250 : Int) < (l0_6.length : Int)) = false := decide_eq_false (by omega)
          have d3 : ¬ (250 : Nat) < l0_6.length := by omega
          have d5 : decide ((250 : Nat) < l2.length) = false := decide_eq_false (by omega)
          have d6 : decide ((250 : Int) < (l2.length : Int)) = false := decide_eq_false (by omega)
          have d7 : ¬ (250 : Nat) < l2.length := by omega
          clear c0
          have b2 : (a0_0 == 2) = false := beq_eq_false_iff_ne.mpr m2
          have n2 : (a0_0 != 2) = true := bne_iff_ne.mpr m2
          clear m2
          have b4 : (a0_0 == 4) = false := beq_eq_false_iff_ne.mpr m4
          have n4 : (a0_0 != 4) = true := bne_iff_ne.mpr m4
          clear m4
          go_enter Try.func8, Try.ntmps8
          go_wp2_with (first
            | (go_at_call 12; (with_reducible refine (deprec_Schedule.calls k a0_0 a0_1 a0_2 a0_3 a0_4 a0_5 A0_6 c0_6 l0_6 r1 e1 _ (Kd.C_below HR.out HB0.out) HC.out H1.out).mono ?_); rintro e W1 ⟨v1, rfl, hR1, hb1⟩; have HP1 := Aside0.mk (blk_below HP0.out hb1); have HQ1 := Aside0.mk (blk_below HQ0.out hb1); have HB1 := Aside0.mk (below_then HB0.out HB0.out.size hb1); have HR1 := Aside0.mk hR1; obtain ⟨q0, q1, q2, q3, q4, q5, q6⟩ := plan_cells HQ1.out; clear hb1 hR1)
            | (go_at_call 12; (with_reducible refine (deprec_Schedule.calls k a0_0 a0_1 a0_2 a0_3 a1_0 a1_1 A2 c2 l2 r2 e1 _ (Kd.C_below HR2.out HB1.out) HC2.out H2.out).mono ?_); rintro e W2 ⟨v2, rfl, hR2, hb2⟩; have HP2 := Aside0.mk (blk_below HP1.out hb2); have HQ2 := Aside0.mk (blk_below HQ1.out hb2); have HB2 := Aside0.mk (below_then HB1.out HB1.out.size hb2); obtain ⟨B1, k1, rfl, hk1, hC1⟩ := Kd.R_reads (Kd.R_below HR1.out hb2); obtain ⟨B2, k2, rfl, hk2, hC2⟩ := Kd.R_reads hR2; have HC1 := Aside0.mk hC1; have HD2 := Aside0.mk hC2; have HK1 := Aside0.mk hk1; have HK2 := Aside0.mk hk2; clear hb2 hR2 hC1 hC2 hk1 hk2 q0 q1 q2 q3 q4 q5 q6))
          go_region_held3 (fun W' => W'.cell? ⟨w.heap.size, 0, none⟩ = some (.int .i64 a0_0) ∧ W'.cell? ⟨w.heap.size, 1, none⟩ = some (.int .i64 a0_1) ∧ W'.cell? ⟨w.heap.size, 2, none⟩ = some (.int .i64 a0_2) ∧ W'.cell? ⟨w.heap.size, 3, none⟩ = some (.int .i64 a0_3) ∧ W'.cell? ⟨w.heap.size, 4, none⟩ = some (.int .i64 a0_4) ∧ W'.cell? ⟨w.heap.size, 5, none⟩ = some (.int .i64 a0_5) ∧ W'.cell? ⟨w.heap.size, 6, none⟩ = some (.slice A0_6 l0_6.length c0_6) ∧ W'.cell? ⟨w.heap.size + 1 + 1, 0, none⟩ = some (.int .i64 a0_0) ∧ W'.cell? ⟨w.heap.size + 1 + 1, 1, none⟩ = some (.int .i64 a0_1) ∧ W'.cell? ⟨w.heap.size + 1 + 1, 2, none⟩ = some (.int .i64 a0_2) ∧ W'.cell? ⟨w.heap.size + 1 + 1, 3, none⟩ = some (.int .i64 a0_3) ∧ W'.cell? ⟨w.heap.size + 1 + 1, 4, none⟩ = some (.int .i64 a1_0) ∧ W'.cell? ⟨w.heap.size + 1 + 1, 5, none⟩ = some (.int .i64 a1_1) ∧ W'.cell? ⟨w.heap.size + 1 + 1, 6, none⟩ = some (.slice A2 l2.length c2) ∧ PlanAt W' w.heap.size a0_0 a0_1 a0_2 a0_3 a0_4 a0_5 (.slice A0_6 l0_6.length c0_6) ∧ PlanAt W' (w.heap.size + 1 + 1) a0_0 a0_1 a0_2 a0_3 a1_0 a1_1 (.slice A2 l2.length c2) ∧ Below W2.heap.size W2 W')
            (first | exact plan2_S HP2.out HQ2.out (below_drew (Below.refl _ _)) | exact plan2_S (blk_below hSW.1 hb') (blk_below hSW.2.1 hb') (below_then hSW.2.2 hSW.2.2.size hb'))
            (first
              | (go_at_call 14; have hSW := plan2_hS (W0 := W2) (g := w.heap.size) (h := w.heap.size + 1 + 1) (by assumption); (with_reducible refine (accountingref08_Same.calls k B1 k1 r1 B2 k2 r2 true _ (Kd.C_below HC1.out hSW.2.2) HK1.out (Kd.C_below HD2.out hSW.2.2) HK2.out H3.out).mono ?_); rintro e W3 ⟨rfl, hd3⟩; have hb' := hd3.below)
              | (go_at_call 10; have hSW := plan2_hS (W0 := W2) (g := w.heap.size) (h := w.heap.size + 1 + 1) (by assumption); (with_reducible refine (deprec_Check.calls k a0_0 a0_1 a0_2 a0_3 a0_4 a0_5 A0_6 c0_6 l0_6 c _ (Kd.C_below HR.out (below_then HB2.out HB2.out.size hSW.2.2)) HC.out H4.out).mono ?_); rintro e W3 ⟨rfl, hb'⟩)
              | (go_at_call 10; have hSW := plan2_hS (W0 := W2) (g := w.heap.size) (h := w.heap.size + 1 + 1) (by assumption); (with_reducible refine (deprec_Check.calls k a0_0 a0_1 a0_2 a0_3 a1_0 a1_1 A2 c2 l2 c _ (Kd.C_below HR2.out (below_then HB2.out HB2.out.size hSW.2.2)) HC2.out H5.out).mono ?_); rintro e W3 ⟨rfl, hb'⟩)
              | (go_at_call 9; have hSW := plan2_hS (W0 := W2) (g := w.heap.size) (h := w.heap.size + 1 + 1) (by assumption); (with_reducible refine (accountinglaw30_lives.calls k true _ H6.out).mono ?_); rintro e W3 ⟨rfl, hb'⟩))
          go_wp2
          rename_i hS
          go_ret
          exact ⟨by first | rfl | simp, below_then HB2.out HB2.out.size (plan2_hS hS).2.2⟩
        · cases z6
end Go.Proofs.Ytadognlkefhoiaa.M
end
section
-- Written by mprint.py (a program of this session) over the kit's print.
namespace Go.Proofs.Ytadognlkefhoiaa.M
open Go.RowKit Go.Proofs.YtadognlkefhoiaaW.PrintWords Go.Proofs.YtadognlkefhoiaaW.PrintLast Go.Proofs.YtadognlkefhoiaaW.PrintMore
attribute [local go_sem] max2_int min2_int max_two min_two max_three min_three max_four min_four   -- for this text's walks alone
set_option linter.unusedVariables false
set_option linter.unusedSimpArgs false

/-- THE ONE PURE STATEMENT of accountinglaw30_DeprecOther. -/
def accountinglaw30_DeprecOther.Pure : Prop := ∀ (x0 : S26) (x1 : S23) (x2 : List Int), (G26 x0) → (G23 x1) → (x2.length * 8 ≤ 140737488351232 ∧ ∀ y0_ ∈ x2, (Lit.int .i64 y0_).wf = true) → ∃ k, accountinglaw30_DeprecOther.f k x0.f0 x0.f1 x0.f2 x0.f3 x0.f4.f0 x0.f4.f1 x0.f5 x1.f0 x1.f1 x2 = some true
end Go.Proofs.Ytadognlkefhoiaa.M
end
section
/- The fraction matters to declining depreciation only, the units to depreciation by usage only: the law holds for every plan. -/
namespace Go.Proofs.Ytadognlkefhoiaa.M
open Go.RowKit Go.Proofs.YtadognlkefhoiaaW.PrintWords Dv
set_option linter.unusedVariables false
theorem chkv_other {m c s n N D N' D' : Int} {l l' : List Int} (h1 : m = 2 → N = N' ∧ D = D') (h2 : m = 4 → l = l') : chkv m c s n N D l = chkv m c s n N' D' l' := by
  unfold chkv
  by_cases a : m < 1 ∨ m > 4
  · rw [if_pos a, if_pos a]
  · rw [if_neg a, if_neg a]
    by_cases b : (c < 1 ∨ c > 1000000000000 ∨ s < 0 ∨ s > c) ∨ n < 1 ∨ n > 200
    · rw [if_pos b, if_pos b]
    · rw [if_neg b, if_neg b]
      by_cases m2 : m = 2
      · obtain ⟨rfl, rfl⟩ := h1 m2
        have m4 : ¬ m = 4 := by omega
        simp [m4]
      · by_cases m4 : m = 4
        · obtain rfl := h2 m4
          simp [m2]
        · simp [m2, m4]
theorem schv_other {m c s n N D N' D' : Int} {l l' : List Int} (h1 : m = 2 → N = N' ∧ D = D') (h2 : m = 4 → l = l') : schv m c s n N D l = schv m c s n N' D' l' := by
  unfold schv
  rw [chkv_other h1 h2]
  by_cases h : chkv m c s n N' D' l' = 0
  · rw [if_pos h, if_pos h]
    have K := chkv_ok h
    have hm := K.m1
    unfold amtv
    by_cases m1 : m = 1
    · rw [if_pos m1, if_pos m1]
    · rw [if_neg m1, if_neg m1]
      by_cases m2 : m = 2
      · obtain ⟨rfl, rfl⟩ := h1 m2
        rw [if_pos m2, if_pos m2]
      · rw [if_neg m2, if_neg m2]
        by_cases m3 : m = 3
        · rw [if_pos m3, if_pos m3]
        · obtain rfl := h2 (by omega)
          rfl
  · rw [if_neg h, if_neg h]
theorem rest_true {m c s n N D N' D' : Int} {l l' : List Int} (hN : inI N) (hD : inI D) (hN' : inI N') (hD' : inI D') (hl : l.length < 1000000) (hl' : l'.length < 1000000) (h1 : m = 2 → N = N' ∧ D = D') (h2 : m = 4 → l = l') : Ev (fun k => accountinglaw30_DeprecOther.rest k m c s n N D l N' D' l') true := by
  unfold accountinglaw30_DeprecOther.rest
  refine Ev.bind (deprec_Schedule.eq hN hD hl) (Ev.bind (deprec_Schedule.eq hN' hD' hl') ?_)
  rw [← schv_other h1 h2]
  have L : (schv m c s n N D l).1.length < 100000000000000 := by
    unfold schv
    split
    · rename_i h
      have K := chkv_ok h
      have := amtv_length K
      have := K.n1
      show (amtv m c s n N D l).length < _
      omega
    · simp
  refine Ev.bind (accountingref08_Same.self _ L) (Ev.bind (deprec_Check.eq hN hD (by omega)) (Ev.bind (deprec_Check.eq hN' hD' (by omega)) ?_))
  rw [← chkv_other h1 h2]
  refine Ev.bind accountinglaw30_lives.true ?_
  simpa using Ev.const true
theorem pure_DeprecOther : accountinglaw30_DeprecOther.Pure := by
  intro x y u hx hy hu
  obtain ⟨hN, hD, hl⟩ := plan_in hx
  have hN' := wfb hy.1
  have hD' := wfb hy.2
  refine Ev.out (g := fun k => accountinglaw30_DeprecOther.f k x.f0 x.f1 x.f2 x.f3 x.f4.f0 x.f4.f1 x.f5 y.f0 y.f1 u) ?_
  unfold accountinglaw30_DeprecOther.f
  by_cases c : (x.f5.length : Int) > 250 ∨ (u.length : Int) > 250
  · simp only [if_pos c]
    refine Ev.bind accountinglaw30_lives.true ?_
    simpa using Ev.const true
  · simp only [if_neg c]
    by_cases m2 : x.f0 = 2
    · simp only [if_pos m2]
      exact rest_true hN hD hN hD (by omega) (by omega) (fun _ => ⟨rfl, rfl⟩) (fun h => by omega)
    · simp only [if_neg m2]
      by_cases m4 : x.f0 = 4
      · simp only [if_pos m4]
        exact rest_true hN hD hN' hD' (by omega) (by omega) (fun h => absurd h m2) (fun _ => rfl)
      · simp only [if_neg m4]
        exact rest_true hN hD hN' hD' (by omega) (by omega) (fun h => absurd h m2) (fun h => absurd h m4)
end Go.Proofs.Ytadognlkefhoiaa.M
namespace Go.Proofs.Ytadognlkefhoiaa.Pure
theorem DeprecOther : M.accountinglaw30_DeprecOther.Pure := M.pure_DeprecOther
end Go.Proofs.Ytadognlkefhoiaa.Pure
end
section
-- Written by mprint.py (a program of this session) over the kit's print.
namespace Go.Proofs.Ytadognlkefhoiaa.deprecOther
open Go.ChangeShapes Go.WideShapes Go.ChangeAt Go.RowKit Go.Proofs.Ytadognlkefhoiaa.M Go.Proofs.YtadognlkefhoiaaW.PrintWords Go.Proofs.YtadognlkefhoiaaW.PrintLast
open Go.ChangeMaps (open_string shut_string)
set_option linter.unusedVariables false
theorem own : ownKnob Try.prog.godebug = none := by kernel_rfl
theorem laidOut : laidOutB Try.prog = true := by kernel_rfl
set_option maxRecDepth 100000 in
set_option maxHeartbeats 4000000 in
theorem lifted (os : Os) (started : os.Started) (H : Type) (enc : TypeId × Value → H) :
    ReturnsInHanded {} Try.checked os 8 .any (Rows.deprecOtherSpec.pre6 enc Try.prog Try.f8 Rows.deprecOtherRow.domain false) (Rows.deprecOtherSpec.post enc Try.prog Try.f8 false true false false) := by
  refine returnsInHanded_of_change_sized (C := Try.checked) own started (by kernel_rfl) Try.func8
    (ChangeSpec.witness6 (enc := enc) (C := Try.checked) false ⟨#[], #[.agg #[.int .i64 0, .int .i64 0, .int .i64 0, .int .i64 0, .int .i64 0, .int .i64 0, .slice none 0 0], .agg #[.int .i64 0, .int .i64 0], .slice none 0 0], []⟩ 8 (by kernel_rfl) (by kernel_rfl) (by kernel_rfl) (by kernel_rfl)) ?_
  intro W base args ds gs before hval0 hW hcnd hsz0 _
  have hsz : (DataW.weightsEach Try.prog (Try.f8.params.toList ++ Rows.deprecOtherSpec.plain.varTypes Try.prog) (ds ++ gs)).all (· ≤ reachBytes) = true := hsz0
  have hval : ∀ (j : Nat) t v, Try.f8.params[j]? = some t → args[j]? = some v → Value.okWide Try.prog W .any base t v := hval0
  have hW' := hW
  obtain ⟨p, q, hA0, hV, rfl, hfz, hnd⟩ := hW
  have hA : DataW.TrodAll enc Try.prog W 0 (fun _ => true) true Try.f8.params.toList args.toList ds p := hA0
  rw [Try.params8] at hA hval hsz
  obtain ⟨v0, vs0, d0, ds0, p0, q0, hargs, rfl, rfl, h0, r0⟩ := trodAll_cons hA
  obtain ⟨v1, vs1, d1, ds1, p1, q1, rfl, rfl, rfl, h1, r1⟩ := trodAll_cons r0
  obtain ⟨v2, vs2, d2, ds2, p2, q2, rfl, rfl, rfl, h2, r2⟩ := trodAll_cons r1
  obtain ⟨rfl, rfl, rfl⟩ := trodAll_nil r2
  obtain rfl : args = #[v0, v1, v2] := by cases args; simp_all
  obtain ⟨rfl, rfl⟩ := trodVars_none hV
  obtain ⟨cs0, rfl⟩ : ∃ cs, v0 = .agg cs := by have z := (hval 0 26 v0 rfl rfl); simp only [Value.okWide, Try.underlying26] at z; obtain ⟨cs, e, _⟩ := z; exact ⟨cs, e⟩
  have k0 := h0
  have lt0 : ∀ x ∈ p0, x.block < W.heap.size := by obtain ⟨m, hm⟩ := k0; exact DataW.trod_lt m _ _ _ hm
  obtain ⟨x0, K0, g0⟩ : ∃ x_ : S26, k26.K W x_ cs0.toList ∧ (G26 x_) := by obtain ⟨f, hf⟩ := h0; exact (opens26).get enc W 0 _ _ f _ _ hf (weights_at hsz (j := 0) (t := 26) rfl rfl)
  obtain ⟨A0_6, c0_6, e0, L0_6, C0_6⟩ := k26_open K0
  obtain rfl : cs0 = #[.int .i64 x0.f0, .int .i64 x0.f1, .int .i64 x0.f2, .int .i64 x0.f3, .int .i64 x0.f4.f0, .int .i64 x0.f4.f1, .slice A0_6 x0.f5.length c0_6] := by rw [← Array.toList_inj]; exact e0
  obtain ⟨cs1, rfl⟩ : ∃ cs, v1 = .agg cs := by have z := (hval 1 23 v1 rfl rfl); simp only [Value.okWide, Try.underlying23] at z; obtain ⟨cs, e, _⟩ := z; exact ⟨cs, e⟩
  have k1 := h1
  have lt1 : ∀ x ∈ p1, x.block < W.heap.size := by obtain ⟨m, hm⟩ := k1; exact DataW.trod_lt m _ _ _ hm
  obtain ⟨x1, K1, g1⟩ : ∃ x_ : S23, k23.K W x_ cs1.toList ∧ (G23 x_) := by obtain ⟨f, hf⟩ := h1; exact (opens23).get enc W 0 _ _ f _ _ hf (weights_at hsz (j := 1) (t := 23) rfl rfl)
  obtain e1 := k23_open K1
  obtain rfl : cs1 = #[.int .i64 x1.f0, .int .i64 x1.f1] := by rw [← Array.toList_inj]; exact e1
  obtain ⟨a2, len2, cap2, rfl⟩ := okWide_slice Try.underlying24 (hval 2 24 v2 rfl rfl)
  have k2 := h2
  have lt2 : ∀ x ∈ p2, x.block < W.heap.size := by obtain ⟨m, hm⟩ := k2; exact DataW.trod_lt m _ _ _ hm
  obtain ⟨x2, K2, g2⟩ : ∃ x_ : List Int, (Kd.slice 3 (Kd.int .i64)).K W x_ [.slice a2 len2 cap2] ∧ (x_.length * 8 ≤ 140737488351232 ∧ ∀ y0_ ∈ x_, (Lit.int .i64 y0_).wf = true) := by obtain ⟨f, hf⟩ := h2; exact ((Opens.slice Try.underlying24 (Opens.int Try.underlying3) (by kernel_rfl) (b := 8) (by kernel_rfl))).get enc W 0 _ _ f _ _ hf (weights_at hsz (j := 2) (t := 24) rfl rfl)
  obtain ⟨A2, c2, e2, L2, C2⟩ := K2
  injection e2 with e2 _
  injection e2 with e2a e2b e2c
  subst e2a e2b e2c
  clear hA0 hval0 hsz0 hsz
  obtain ⟨k, h⟩ := Pure.DeprecOther x0 x1 x2 g0 g1 g2
  refine (M.accountinglaw30_DeprecOther.calls (k := k) (r := true) (w := W) (hr0_6 := C0_6) (hc0_6 := L0_6) (hr2 := C2) (hc2 := L2) (h := h)).mono fun e W' ⟨he, bel0⟩ => ?_
  have bel : Below W.heap.size W W' := by first | exact bel0 | exact bel0.below | (obtain ⟨nd, rfl⟩ := bel0; exact pw_below_drewN (Below.refl _ _) nd)
  subst he
  exact ⟨_, rfl, _, _, _, [], _, [], hW', trodAll_mk1 (shut_bool Try.underlying4 _), (trodAll_cons_mk (Below.trod laidOut (by kernel_rfl) (of_decide_eq_true (by kernel_rfl)) k0 bel lt0) (trodAll_cons_mk (Below.trod laidOut (by kernel_rfl) (of_decide_eq_true (by kernel_rfl)) k1 bel lt1) (trodAll_cons_mk (Below.trod laidOut (by kernel_rfl) (of_decide_eq_true (by kernel_rfl)) k2 bel lt2) trodAll_mk0))), rfl, bel.frame _, fun h => by cases h⟩
theorem over : Rows.deprecOtherRow.holds Try.pinned (OpenSpec.ofChange Rows.deprecOtherSpec) :=
  OpenClaim.holds_of_wide 8 Try.f8 rfl rfl rfl rfl rfl rfl rfl ⟨rfl, rfl, rfl, rfl, rfl⟩ rfl rfl rfl rfl rfl (by kernel_rfl) Try.func8 (by kernel_rfl)
    (of_decide_eq_true (by kernel_rfl)) (by unfold Func.isWrapper; first | (rw [if_pos (by decide +kernel)]; kernel_rfl) | (rw [if_neg (by decide +kernel)]; exact ⟨rfl, rfl⟩))
    (fun os started H enc _ => lifted os started H enc)
theorem proved : Rows.DeprecOtherSaid := over
#print axioms proved
end Go.Proofs.Ytadognlkefhoiaa.deprecOther
namespace Go.Proofs.Ytadognlkefhoiaa
/-- The row, under a short name, for the claim. -/
theorem deprecOther_holds : Rows.DeprecOtherSaid := deprecOther.proved
end Go.Proofs.Ytadognlkefhoiaa
end
