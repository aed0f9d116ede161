/- What the claims of this seat share, part 2 of 3: what the program's functions compute. -/
import Derived.Test.YtadognlkefhoiaaQBB2
import Derived.Test.YtadognlkefhoiaaQRR1
import Derived.Test.YtadognlkefhoiaaQBB1
import Derived.Test.YtadognlkefhoiaaQBB3
import Derived.Test.YtadognlkefhoiaaQBB8
import Derived.Test.YtadognlkefhoiaaQBB4
namespace Go.Proofs.Ytadognlkefhoiaa.M
theorem prr2_0 {p : Prop} (h : p := by (with_reducible repeat (first | apply Kd.R_alloc | apply Kd.R_drewN | apply Kd.R_drew)); exact HO105.out) : p := h
theorem prr2_1 {p : Prop} (h : p := by (with_reducible repeat (first | apply Kd.R_alloc | apply Kd.R_drewN | apply Kd.R_drew)); exact Kd.R_mono HO_10.out (fun _ hk => ⟨trivial, hk⟩)) : p := h
theorem prr2_2 {p : Prop} (h : p := by (with_reducible repeat (first | apply Kd.R_alloc | apply Kd.R_drewN | apply Kd.R_drew)); exact Kd.R_mono HO_9.out (fun _ hk => ⟨trivial, hk⟩)) : p := h
theorem prr2_3 {p : Prop} (h : p := by (with_reducible repeat (first | apply Kd.R_alloc | apply Kd.R_drewN | apply Kd.R_drew)); exact HO_10.out) : p := h
theorem prr2_4 {p : Prop} (h : p := by (with_reducible repeat (first | apply Kd.R_alloc | apply Kd.R_drewN | apply Kd.R_drew)); exact HO_9.out) : p := h
theorem prr2_5 {p : Prop} (h : p := by have := HJ4.out; have := HK2.out; have := HK3.out; have := HK4.out; omega) : p := h
end Go.Proofs.Ytadognlkefhoiaa.M
section
namespace Go.Proofs.Ytadognlkefhoiaa.M
open Go.RowKit Go.Proofs.YtadognlkefhoiaaW.PrintWords Go.Proofs.YtadognlkefhoiaaW.PrintLast Go.Proofs.YtadognlkefhoiaaW.PrintMore
attribute [local go_sem] max2_int min2_int max_two min_two max_three min_three max_four min_four
set_option linter.unusedVariables false
set_option linter.unusedSimpArgs false
def accountingref02_Mod.f (k : Nat) (a0 : Int) (a1 : Int) (a2 : Int) : Option (Int × Int) := if a2 = 0 then (some (0, 2)) else ((accountingref02_mag.f a0).bind fun t101 => ((accountingref02_mag.f a1).bind fun t102 => ((accountingref02_wide.f t101 t102).bind fun bt103 => ((accountingref02_mag.f a2).bind fun t105 => ((accountingref02_divide.f k bt103.1 bt103.2 t105).bind fun bt106 => (if bt106.2.2 > 0 then (if ((decide (a0 < 0)) != (decide (a1 < 0))) = true then ((accountingref02_mag.f a2).bind fun t109 => (some (wrap64 (IntKind.u64.wrap (t109 - bt106.2.2)), 0))) else (some (wrap64 (bt106.2.2), 0))) else (some (wrap64 (bt106.2.2), 0))))))))
set_option maxHeartbeats 8000000 in
set_option maxRecDepth 100000 in
theorem accountingref02_Mod.calls (k : Nat) (a0 : Int) (a1 : Int) (a2 : Int) (r1 : Int) (r2 : Int) (w : World) (h : accountingref02_Mod.f k a0 a1 a2 = some (r1, r2)) :
    Calls Try.prog 42 #[.int .i64 a0, .int .i64 a1, .int .i64 a2] w fun e w' => e = .returned (.tuple #[.int .i64 r1, .int .i64 r2]) ∧ Drawn0 w w' := by
 have H : (if a2 = 0 then (some (0, 2)) else ((accountingref02_mag.f a0).bind fun t101 => ((accountingref02_mag.f a1).bind fun t102 => ((accountingref02_wide.f t101 t102).bind fun bt103 => ((accountingref02_mag.f a2).bind fun t105 => ((accountingref02_divide.f k bt103.1 bt103.2 t105).bind fun bt106 => (if bt106.2.2 > 0 then (if ((decide (a0 < 0)) != (decide (a1 < 0))) = true then ((accountingref02_mag.f a2).bind fun t109 => (some (wrap64 (IntKind.u64.wrap (t109 - bt106.2.2)), 0))) else (some (wrap64 (bt106.2.2), 0))) else (some (wrap64 (bt106.2.2), 0))))))))) = some (r1, r2) := h; clear h
 by_cases c4 : a2 = 0
 ·rw [if_pos c4] at H; have c4b0 : (a2 == 0) = true := beq_iff_eq.mpr c4; have c4b1 : (a2 != 0) = false := bne_eq_false_iff_eq.mpr c4; clear c4; simp only [Option.some.injEq, Prod.mk.injEq] at H; obtain ⟨rfl, rfl⟩ := H; go_enter Try.func42, Try.ntmps42
  go_wp2
  go_ret2
  exact ⟨pbb2_0, pbb2_1⟩
 ·rw [if_neg c4] at H; have c4b0 : (a2 == 0) = false := beq_eq_false_iff_ne.mpr c4; have c4b1 : (a2 != 0) = true := bne_iff_ne.mpr c4; replace H := Option.bind_eq_some_iff.mp H; obtain ⟨t101, A50, H⟩ := H; replace H : ((accountingref02_mag.f a1).bind fun t102 => ((accountingref02_wide.f t101 t102).bind fun bt103 => ((accountingref02_mag.f a2).bind fun t105 => ((accountingref02_divide.f k bt103.1 bt103.2 t105).bind fun bt106 => (if bt106.2.2 > 0 then (if ((decide (a0 < 0)) != (decide (a1 < 0))) = true then ((accountingref02_mag.f a2).bind fun t109 => (some (wrap64 (IntKind.u64.wrap (t109 - bt106.2.2)), 0))) else (some (wrap64 (bt106.2.2), 0))) else (some (wrap64 (bt106.2.2), 0))))))) = some (r1, r2) := H; have A5 := Aside0.mk A50; clear A50; replace H := Option.bind_eq_some_iff.mp H; obtain ⟨t102, A60, H⟩ := H; replace H : ((accountingref02_wide.f t101 t102).bind fun bt103 => ((accountingref02_mag.f a2).bind fun t105 => ((accountingref02_divide.f k bt103.1 bt103.2 t105).bind fun bt106 => (if bt106.2.2 > 0 then (if ((decide (a0 < 0)) != (decide (a1 < 0))) = true then ((accountingref02_mag.f a2).bind fun t109 => (some (wrap64 (IntKind.u64.wrap (t109 - bt106.2.2)), 0))) else (some (wrap64 (bt106.2.2), 0))) else (some (wrap64 (bt106.2.2), 0)))))) = some (r1, r2) := H; have A6 := Aside0.mk A60; clear A60; replace H := Option.bind_eq_some_iff.mp H; obtain ⟨⟨t103, t104⟩, A70, H⟩ := H; replace H : ((accountingref02_mag.f a2).bind fun t105 => ((accountingref02_divide.f k t103 t104 t105).bind fun bt106 => (if bt106.2.2 > 0 then (if ((decide (a0 < 0)) != (decide (a1 < 0))) = true then ((accountingref02_mag.f a2).bind fun t109 => (some (wrap64 (IntKind.u64.wrap (t109 - bt106.2.2)), 0))) else (some (wrap64 (bt106.2.2), 0))) else (some (wrap64 (bt106.2.2), 0))))) = some (r1, r2) := H; have A7 := Aside0.mk A70; clear A70; replace H := Option.bind_eq_some_iff.mp H; obtain ⟨t105, A80, H⟩ := H; replace H : ((accountingref02_divide.f k t103 t104 t105).bind fun bt106 => (if bt106.2.2 > 0 then (if ((decide (a0 < 0)) != (decide (a1 < 0))) = true then ((accountingref02_mag.f a2).bind fun t109 => (some (wrap64 (IntKind.u64.wrap (t109 - bt106.2.2)), 0))) else (some (wrap64 (bt106.2.2), 0))) else (some (wrap64 (bt106.2.2), 0)))) = some (r1, r2) := H; have A8 := Aside0.mk A80; clear A80; replace H := Option.bind_eq_some_iff.mp H; obtain ⟨⟨t106, t107, t108⟩, A90, H⟩ := H; replace H : (if t108 > 0 then (if ((decide (a0 < 0)) != (decide (a1 < 0))) = true then ((accountingref02_mag.f a2).bind fun t109 => (some (wrap64 (IntKind.u64.wrap (t109 - t108)), 0))) else (some (wrap64 (t108), 0))) else (some (wrap64 (t108), 0))) = some (r1, r2) := H; have A9 := Aside0.mk A90; clear A90
  by_cases c10 : t108 > 0
  ·rw [if_pos c10] at H; have c10b0 : decide (0 < t108) = true := decide_eq_true c10; clear c10
   by_cases c11 : ((decide (a0 < 0)) != (decide (a1 < 0))) = true
   ·rw [if_pos c11] at H; have c11b0 : ((decide (a0 < 0)) != (decide (a1 < 0))) = true := c11; (try (have c11b1 : decide ((decide (a0 < 0)) = (decide (a1 < 0))) = false := by simpa using c11)); (try (have c11b2 : ((decide (a0 < 0)) == (decide (a1 < 0))) = false := by simpa using c11)); (try (have c11b3 : ¬ ((decide (a0 < 0)) = (decide (a1 < 0))) := by simpa using c11)); clear c11; replace H := Option.bind_eq_some_iff.mp H; obtain ⟨t109, A120, H⟩ := H; replace H : (some (wrap64 (IntKind.u64.wrap (t109 - t108)), 0)) = some (r1, r2) := H; have A12 := Aside0.mk A120; clear A120; simp only [Option.some.injEq, Prod.mk.injEq] at H; obtain ⟨rfl, rfl⟩ := H; go_enter Try.func42, Try.ntmps42
    go_wp2_with (first | ((with_reducible refine gate_callee (f := 51) rfl ?_); refine goesL_ (some 17) rfl rfl Try.func51 (by kernel_rfl) rfl #[.int .i64 a0] rfl pbb3_0 ?_; (with_reducible refine (accountingref02_mag.calls a0 t101 _ A5.out).mono ?_); rintro e w' ⟨rfl, ⟨nd, rfl⟩⟩; refine ⟨_, rfl, ?_⟩) | ((with_reducible refine gate_callee (f := 51) rfl ?_); refine goesL_ (some 19) rfl rfl Try.func51 (by kernel_rfl) rfl #[.int .i64 a1] rfl pbb3_0 ?_; (with_reducible refine (accountingref02_mag.calls a1 t102 _ A6.out).mono ?_); rintro e w' ⟨rfl, ⟨nd, rfl⟩⟩; refine ⟨_, rfl, ?_⟩) | ((with_reducible refine gate_callee (f := 50) rfl ?_); refine goesL_ (some 20) rfl rfl Try.func50 (by kernel_rfl) rfl #[.int .u64 t101, .int .u64 t102] rfl pbb3_0 ?_; (with_reducible refine (accountingref02_wide.calls t101 t102 t103 t104 _ A7.out).mono ?_); rintro e w' ⟨rfl, ⟨nd, rfl⟩⟩; refine ⟨_, rfl, ?_⟩) | ((with_reducible refine gate_callee (f := 51) rfl ?_); refine goesL_ (some 27) rfl rfl Try.func51 (by kernel_rfl) rfl #[.int .i64 a2] rfl pbb3_0 ?_; (with_reducible refine (accountingref02_mag.calls a2 t105 _ A8.out).mono ?_); rintro e w' ⟨rfl, ⟨nd, rfl⟩⟩; refine ⟨_, rfl, ?_⟩) | ((with_reducible refine gate_callee (f := 52) rfl ?_); refine goesL_ (some 28) rfl rfl Try.func52 (by kernel_rfl) rfl #[.int .u64 t103, .int .u64 t104, .int .u64 t105] rfl pbb3_0 ?_; (with_reducible refine (accountingref02_divide.calls k t103 t104 t105 t106 t107 t108 _ A9.out).mono ?_); rintro e w' ⟨rfl, ⟨nd, rfl⟩⟩; refine ⟨_, rfl, ?_⟩) | ((with_reducible refine gate_callee (f := 51) rfl ?_); refine goesL_ (some 42) rfl rfl Try.func51 (by kernel_rfl) rfl #[.int .i64 a2] rfl pbb3_0 ?_; (with_reducible refine (accountingref02_mag.calls a2 t109 _ A12.out).mono ?_); rintro e w' ⟨rfl, ⟨nd, rfl⟩⟩; refine ⟨_, rfl, ?_⟩))
    go_ret2
    exact ⟨pbb2_0, pbb2_1⟩
   ·rw [if_neg c11] at H; have c11b0 : ((decide (a0 < 0)) != (decide (a1 < 0))) = false := by simpa using c11
    (try (have c11b1 : decide ((decide (a0 < 0)) = (decide (a1 < 0))) = true := by simpa using c11)); (try (have c11b2 : ((decide (a0 < 0)) == (decide (a1 < 0))) = true := by simpa using c11)); clear c11; simp only [Option.some.injEq, Prod.mk.injEq] at H; obtain ⟨rfl, rfl⟩ := H; go_enter Try.func42, Try.ntmps42
    go_wp2_with (first | ((with_reducible refine gate_callee (f := 51) rfl ?_); refine goesL_ (some 17) rfl rfl Try.func51 (by kernel_rfl) rfl #[.int .i64 a0] rfl pbb3_0 ?_; (with_reducible refine (accountingref02_mag.calls a0 t101 _ A5.out).mono ?_); rintro e w' ⟨rfl, ⟨nd, rfl⟩⟩; refine ⟨_, rfl, ?_⟩) | ((with_reducible refine gate_callee (f := 51) rfl ?_); refine goesL_ (some 19) rfl rfl Try.func51 (by kernel_rfl) rfl #[.int .i64 a1] rfl pbb3_0 ?_; (with_reducible refine (accountingref02_mag.calls a1 t102 _ A6.out).mono ?_); rintro e w' ⟨rfl, ⟨nd, rfl⟩⟩; refine ⟨_, rfl, ?_⟩) | ((with_reducible refine gate_callee (f := 50) rfl ?_); refine goesL_ (some 20) rfl rfl Try.func50 (by kernel_rfl) rfl #[.int .u64 t101, .int .u64 t102] rfl pbb3_0 ?_; (with_reducible refine (accountingref02_wide.calls t101 t102 t103 t104 _ A7.out).mono ?_); rintro e w' ⟨rfl, ⟨nd, rfl⟩⟩; refine ⟨_, rfl, ?_⟩) | ((with_reducible refine gate_callee (f := 51) rfl ?_); refine goesL_ (some 27) rfl rfl Try.func51 (by kernel_rfl) rfl #[.int .i64 a2] rfl pbb3_0 ?_; (with_reducible refine (accountingref02_mag.calls a2 t105 _ A8.out).mono ?_); rintro e w' ⟨rfl, ⟨nd, rfl⟩⟩; refine ⟨_, rfl, ?_⟩) | ((with_reducible refine gate_callee (f := 52) rfl ?_); refine goesL_ (some 28) rfl rfl Try.func52 (by kernel_rfl) rfl #[.int .u64 t103, .int .u64 t104, .int .u64 t105] rfl pbb3_0 ?_; (with_reducible refine (accountingref02_divide.calls k t103 t104 t105 t106 t107 t108 _ A9.out).mono ?_); rintro e w' ⟨rfl, ⟨nd, rfl⟩⟩; refine ⟨_, rfl, ?_⟩))
    go_ret2
    exact ⟨pbb2_0, pbb2_1⟩
  ·rw [if_neg c10] at H; have c10b0 : decide (0 < t108) = false := decide_eq_false c10; clear c10; simp only [Option.some.injEq, Prod.mk.injEq] at H; obtain ⟨rfl, rfl⟩ := H; go_enter Try.func42, Try.ntmps42
   go_wp2_with (first | ((with_reducible refine gate_callee (f := 51) rfl ?_); refine goesL_ (some 17) rfl rfl Try.func51 (by kernel_rfl) rfl #[.int .i64 a0] rfl pbb3_0 ?_; (with_reducible refine (accountingref02_mag.calls a0 t101 _ A5.out).mono ?_); rintro e w' ⟨rfl, ⟨nd, rfl⟩⟩; refine ⟨_, rfl, ?_⟩) | ((with_reducible refine gate_callee (f := 51) rfl ?_); refine goesL_ (some 19) rfl rfl Try.func51 (by kernel_rfl) rfl #[.int .i64 a1] rfl pbb3_0 ?_; (with_reducible refine (accountingref02_mag.calls a1 t102 _ A6.out).mono ?_); rintro e w' ⟨rfl, ⟨nd, rfl⟩⟩; refine ⟨_, rfl, ?_⟩) | ((with_reducible refine gate_callee (f := 50) rfl ?_); refine goesL_ (some 20) rfl rfl Try.func50 (by kernel_rfl) rfl #[.int .u64 t101, .int .u64 t102] rfl pbb3_0 ?_; (with_reducible refine (accountingref02_wide.calls t101 t102 t103 t104 _ A7.out).mono ?_); rintro e w' ⟨rfl, ⟨nd, rfl⟩⟩; refine ⟨_, rfl, ?_⟩) | ((with_reducible refine gate_callee (f := 51) rfl ?_); refine goesL_ (some 27) rfl rfl Try.func51 (by kernel_rfl) rfl #[.int .i64 a2] rfl pbb3_0 ?_; (with_reducible refine (accountingref02_mag.calls a2 t105 _ A8.out).mono ?_); rintro e w' ⟨rfl, ⟨nd, rfl⟩⟩; refine ⟨_, rfl, ?_⟩) | ((with_reducible refine gate_callee (f := 52) rfl ?_); refine goesL_ (some 28) rfl rfl Try.func52 (by kernel_rfl) rfl #[.int .u64 t103, .int .u64 t104, .int .u64 t105] rfl pbb3_0 ?_; (with_reducible refine (accountingref02_divide.calls k t103 t104 t105 t106 t107 t108 _ A9.out).mono ?_); rintro e w' ⟨rfl, ⟨nd, rfl⟩⟩; refine ⟨_, rfl, ?_⟩))
   go_ret2
   exact ⟨pbb2_0, pbb2_1⟩
end Go.Proofs.Ytadognlkefhoiaa.M
end
section
namespace Go.Proofs.Ytadognlkefhoiaa.M
open Go.RowKit Go.Proofs.YtadognlkefhoiaaW.PrintWords Dv
set_option linter.unusedVariables false
set_option linter.unusedSimpArgs false
theorem accountingref02_mag.eq {a : Int} (h : inI a) : accountingref02_mag.f a = some (ab a) := by
  unfold inI at h
  unfold accountingref02_mag.f ab
  simp only [wrap_u64]
  split
  · congr 1; unfold wrap64; omega
  · congr 1; omega
theorem accountingref02_wide.eq {x y : Int} (h0 : 0 ≤ x) (h1 : x < 18446744073709551616) (h2 : 0 ≤ y) (h3 : y < 18446744073709551616) : accountingref02_wide.f x y = some (x * y / 18446744073709551616, x * y % 18446744073709551616) := by
  have e : x * y = (x / 4294967296) * (y / 4294967296) * 18446744073709551616 + ((x / 4294967296) * (y % 4294967296) + (x % 4294967296) * (y / 4294967296)) * 4294967296 + (x % 4294967296) * (y % 4294967296) := by
    have h1 : x = x / 4294967296 * 4294967296 + x % 4294967296 := by omega
    have h2 : y = y / 4294967296 * 4294967296 + y % 4294967296 := by omega
    generalize x / 4294967296 = p at *; generalize y / 4294967296 = u at *; generalize x % 4294967296 = q at *; generalize y % 4294967296 = v at *; subst h1 h2; rw [Int.add_mul, Int.mul_add, Int.mul_add]; have e1 : p * 4294967296 * (u * 4294967296) = p * u * 18446744073709551616 := by rw [Int.mul_assoc p, Int.mul_left_comm 4294967296 u, ← Int.mul_assoc p]; rfl
    have e2 : p * 4294967296 * v = p * v * 4294967296 := Int.mul_right_comm _ _ _; have e3 : q * (u * 4294967296) = q * u * 4294967296 := (Int.mul_assoc _ _ _).symm; rw [e1, e2, e3]; omega
  have p1 := prod_le (x / 4294967296) (y / 4294967296) (by omega) (by omega) (by omega) (by omega); have p2 := prod_le (x / 4294967296) (y % 4294967296) (by omega) (by omega) (by omega) (by omega); have p3 := prod_le (x % 4294967296) (y / 4294967296) (by omega) (by omega) (by omega) (by omega); have p4 := prod_le (x % 4294967296) (y % 4294967296) (by omega) (by omega) (by omega) (by omega); have td : ∀ z : Int, 0 ≤ z → Int.tdiv z 4294967296 = z / 4294967296 := fun z hz => Int.tdiv_eq_ediv_of_nonneg hz; have tm : ∀ z : Int, 0 ≤ z → Int.tmod z 4294967296 = z % 4294967296 := fun z hz => Int.tmod_eq_emod_of_nonneg hz; have uw : ∀ z : Int, 0 ≤ z → z < 18446744073709551616 → IntKind.u64.wrap z = z := fun z a b => u64w a b
  unfold accountingref02_wide.f
  rw [td x h0, td y h2, tm x h0, tm y h2, e]; rw [uw (x / 4294967296) (by omega) (by omega), uw (y / 4294967296) (by omega) (by omega)]; generalize x / 4294967296 = a1 at *; generalize y / 4294967296 = b1 at *; generalize x % 4294967296 = a0 at *; generalize y % 4294967296 = b0 at *; clear e; rw [uw (a1 * b1) (by omega) (by omega), uw (a1 * b0) (by omega) (by omega), uw (a0 * b1) (by omega) (by omega), uw (a0 * b0) (by omega) (by omega)]; generalize a1 * b1 = P1 at *; generalize a1 * b0 = P2 at *; generalize a0 * b1 = P3 at *; generalize a0 * b0 = P4 at *; rw [td P4 (by omega), tm P4 (by omega), uw (P4 / 4294967296) (by omega) (by omega), uw (P2 + P4 / 4294967296) (by omega) (by omega)]; obtain ⟨M, hM⟩ : ∃ M, M = P2 + P4 / 4294967296 := ⟨_, rfl⟩; rw [← hM, td M (by omega), tm M (by omega), uw (M / 4294967296) (by omega) (by omega), uw (P1 + M / 4294967296) (by omega) (by omega), uw (P3 + M % 4294967296) (by omega) (by omega)]; obtain ⟨O, hO⟩ : ∃ O, O = P3 + M % 4294967296 := ⟨_, rfl⟩; rw [← hO, td O (by omega), tm O (by omega), uw (O / 4294967296) (by omega) (by omega), uw (O % 4294967296 * 4294967296) (by omega) (by omega), uw (P1 + M / 4294967296 + O / 4294967296) (by omega) (by omega), uw (O % 4294967296 * 4294967296 + P4 % 4294967296) (by omega) (by omega)]
  congr 2
  · omega
  · omega
theorem accountingref02_divide.next (i : Nat) (h : i ≤ 127) : wrap64 ((i : Int) + 1) = ((i + 1 : Nat) : Int) := by rw [w64 (by omega) (by omega)]; omega
theorem accountingref02_divide.go (P c : Int) (h0 : 0 ≤ P) (h1 : P < 340282366920938463463374607431768211456) (hc : 0 < c) (hc1 : c < 18446744073709551616) : ∀ (g i : Nat) (x0 x1 q0 q1 r : Int), i + g = 128 → 0 ≤ x0 → x0 < 18446744073709551616 → 0 ≤ x1 → x1 < 18446744073709551616 → 0 ≤ q0 → q0 < 18446744073709551616 → 0 ≤ q1 → q1 < 18446744073709551616 → 0 ≤ r → r < c →
    2 ^ i * P = 340282366920938463463374607431768211456 * (c * (q0 * 18446744073709551616 + q1) + r) + (x0 * 18446744073709551616 + x1) → q0 * 18446744073709551616 + q1 < 2 ^ i →
    Ev (fun k => accountingref02_divide.l0 k x0 x1 c q0 q1 r i) (P / c / 18446744073709551616, P / c % 18446744073709551616, P % c)
  | 0, i, x0, x1, q0, q1, r, hi, a0, a1, b0, b1, u0, u1, v0, v1, r0, r1, hW, hQ => by
    obtain rfl : i = 128 := by omega
    refine Ev.succ ?_; have g : ¬ ((128 : Nat) : Int) < 128 := by omega
    simp only [accountingref02_divide.l0, if_neg g]; have e : (2 : Int) ^ 128 = 340282366920938463463374607431768211456 := by decide
    rw [e] at hW hQ; generalize hE : c * (q0 * 18446744073709551616 + q1) = E at hW; have hP : P = r + c * (q0 * 18446744073709551616 + q1) := by rw [hE]; omega
    have d1 : P / c = q0 * 18446744073709551616 + q1 := by
      rw [hP, Int.add_mul_ediv_left _ _ (by omega), Int.ediv_eq_zero_of_lt r0 r1]; omega
    have d2 : P % c = r := by
      rw [hP, Int.add_mul_emod_self_left, Int.emod_eq_of_lt r0 r1]
    rw [d1, d2, show (q0 * 18446744073709551616 + q1) / 18446744073709551616 = q0 by omega, show (q0 * 18446744073709551616 + q1) % 18446744073709551616 = q1 by omega]; exact Ev.const _
  | g + 1, i, x0, x1, q0, q1, r, hi, a0, a1, b0, b1, u0, u1, v0, v1, r0, r1, hW, hQ => by
    have hi' : i ≤ 127 := by omega
    have hp : (2 : Int) ^ i ≤ 2 ^ 127 := by
      have : (2 : Nat) ^ i ≤ 2 ^ 127 := Nat.pow_le_pow_right (by decide) hi'
      exact_mod_cast this
    have e127 : (2 : Int) ^ 127 = 170141183460469231731687303715884105728 := by decide
    rw [e127] at hp; have hpow : (2 : Int) ^ (i + 1) = 2 * 2 ^ i := by rw [Int.pow_succ]; exact Int.mul_comm _ _
    have hW2 : (2 : Int) ^ (i + 1) * P = 2 * (2 ^ i * P) := by rw [hpow, Int.mul_assoc]
    generalize (2 : Int) ^ i * P = W at hW hW2; generalize (2 : Int) ^ i = B at hQ hp hpow; clear e127; have td : ∀ z : Int, 0 ≤ z → Int.tdiv z 9223372036854775808 = z / 9223372036854775808 := fun z hz => Int.tdiv_eq_ediv_of_nonneg hz; have uw : ∀ z : Int, 0 ≤ z → z < 18446744073709551616 → IntKind.u64.wrap z = z := fun z a b => u64w a b; have em : ∀ z : Int, IntKind.u64.wrap z = z % 18446744073709551616 := wrap_u64; have d0 := td x0 a0; have d1 := td x1 b0; have d2 := td q1 v0
    have n0 : IntKind.u64.wrap (IntKind.u64.wrap (2 * x0) + IntKind.u64.wrap (x1 / 9223372036854775808)) = (2 * x0) % 18446744073709551616 + x1 / 9223372036854775808 := by
      rw [em, em, em]; omega
    have n1 : IntKind.u64.wrap (2 * x1) = (2 * x1) % 18446744073709551616 := em _
    have n2 : IntKind.u64.wrap (IntKind.u64.wrap (2 * q0) + IntKind.u64.wrap (q1 / 9223372036854775808)) = 2 * q0 + q1 / 9223372036854775808 := by
      rw [em, em, em]; omega
    have n3 : IntKind.u64.wrap (2 * q1) = (2 * q1) % 18446744073709551616 := em _; have n4 : IntKind.u64.wrap (IntKind.u64.wrap (2 * q1) + 1) = (2 * q1) % 18446744073709551616 + 1 := by rw [em, em]; omega
    have n5 : IntKind.u64.wrap (IntKind.u64.wrap (2 * r) + IntKind.u64.wrap (x0 / 9223372036854775808)) = (2 * r) % 18446744073709551616 + x0 / 9223372036854775808 := by
      rw [em, em, em]; omega
    have n6 : wrap64 ((i : Int) + 1) = ((i + 1 : Nat) : Int) := accountingref02_divide.next i hi'; have gi : (i : Int) < 128 := Int.lt_of_le_of_lt (Int.ofNat_le.2 hi') (by decide); have hE : c * (q0 * 18446744073709551616 + q1) + c * (q0 * 18446744073709551616 + q1) = c * (2 * (q0 * 18446744073709551616 + q1)) := by rw [← Int.mul_add]; congr 1; omega
    have hE1 : c * (2 * (q0 * 18446744073709551616 + q1) + 1) = c * (2 * (q0 * 18446744073709551616 + q1)) + c := by rw [Int.mul_add, Int.mul_one]
    have f1 : (2 * q0 + q1 / 9223372036854775808) * 18446744073709551616 + (2 * q1) % 18446744073709551616 = 2 * (q0 * 18446744073709551616 + q1) := by omega
    have f2 : (2 * q0 + q1 / 9223372036854775808) * 18446744073709551616 + ((2 * q1) % 18446744073709551616 + 1) = 2 * (q0 * 18446744073709551616 + q1) + 1 := by omega
    have f3 : 2 * (x0 * 18446744073709551616 + x1) = 340282366920938463463374607431768211456 * (x0 / 9223372036854775808) + (((2 * x0) % 18446744073709551616 + x1 / 9223372036854775808) * 18446744073709551616 + (2 * x1) % 18446744073709551616) := by omega
    -- with a subtraction
    have S : ∀ r' : Int, r' = 2 * r + x0 / 9223372036854775808 - c → 0 ≤ r' → r' < c → Ev (fun k => accountingref02_divide.l0 k ((2 * x0) % 18446744073709551616 + x1 / 9223372036854775808) ((2 * x1) % 18446744073709551616) c (2 * q0 + q1 / 9223372036854775808) ((2 * q1) % 18446744073709551616 + 1) r' ((i + 1 : Nat) : Int)) (P / c / 18446744073709551616, P / c % 18446744073709551616, P % c) := by
      intro r' hr q2 q3; refine accountingref02_divide.go P c h0 h1 hc hc1 g (i + 1) _ _ _ _ r' (by omega) (by omega) (by omega) (by omega) (by omega) (by omega) (by omega) (by omega) (by omega) q2 q3 ?_ ?_
      · rw [f2, hE1, hW2, hW]; generalize c * (q0 * 18446744073709551616 + q1) = E at *; generalize c * (2 * (q0 * 18446744073709551616 + q1)) = E2 at *
        omega
      · rw [f2, hpow]; omega
    have N : ∀ r' : Int, r' = 2 * r + x0 / 9223372036854775808 → 0 ≤ r' → r' < c → Ev (fun k => accountingref02_divide.l0 k ((2 * x0) % 18446744073709551616 + x1 / 9223372036854775808) ((2 * x1) % 18446744073709551616) c (2 * q0 + q1 / 9223372036854775808) ((2 * q1) % 18446744073709551616) r' ((i + 1 : Nat) : Int)) (P / c / 18446744073709551616, P / c % 18446744073709551616, P % c) := by
      intro r' hr q2 q3; refine accountingref02_divide.go P c h0 h1 hc hc1 g (i + 1) _ _ _ _ r' (by omega) (by omega) (by omega) (by omega) (by omega) (by omega) (by omega) (by omega) (by omega) q2 q3 ?_ ?_
      · rw [f1, hW2, hW]; generalize c * (q0 * 18446744073709551616 + q1) = E at *; generalize c * (2 * (q0 * 18446744073709551616 + q1)) = E2 at *
        omega
      · rw [f1, hpow]; omega
    refine Ev.succ ?_; simp only [accountingref02_divide.l0, if_pos gi, d0, d1, d2, n0, n1, n2, n4, n5, n6]
    by_cases hb : r ≥ 9223372036854775808
    · simp only [if_pos hb]; rw [em]; exact S _ (by omega) (by omega) (by omega)
    · by_cases hb2 : (2 * r) % 18446744073709551616 + x0 / 9223372036854775808 ≥ c
      · simp only [if_neg hb, if_pos hb2]; rw [em]; exact S _ (by omega) (by omega) (by omega)
      · simp only [if_neg hb, if_neg hb2, n3]; exact N _ (by omega) (by omega) (by omega)
theorem accountingref02_divide.eq {P c : Int} (h0 : 0 ≤ P) (h1 : P < 340282366920938463463374607431768211456) (hc : 0 < c) (hc1 : c < 18446744073709551616) : Ev (fun k => accountingref02_divide.f k (P / 18446744073709551616) (P % 18446744073709551616) c) (P / c / 18446744073709551616, P / c % 18446744073709551616, P % c) :=
  accountingref02_divide.go P c h0 h1 hc hc1 128 0 _ _ 0 0 0 rfl (by omega) (by omega) (by omega) (by omega) (by omega) (by omega) (by omega) (by omega) (by omega) hc (by simp; omega) (by simp)
theorem accountingref02_away.eq {mode : Int} {neg : Bool} {q r c : Int} (hq : 0 ≤ q) (hm : 1 ≤ mode ∧ mode ≤ 5) (h0 : 0 ≤ r) (h1 : r < c) (h2 : c < 18446744073709551616) : accountingref02_away.f mode neg ((Int.tmod q 2) == 1) r c = some (awayv mode neg q r c) := by
  have e : IntKind.u64.wrap (c - r) = c - r := u64w (by omega) (by omega); have e2 : Int.tmod q 2 = q % 2 := Int.tmod_eq_emod_of_nonneg hq
  unfold accountingref02_away.f awayv
  rw [e, e2]; have hmm : mode = 1 ∨ mode = 2 ∨ mode = 3 ∨ mode = 4 ∨ mode = 5 := by omega
  have hrc : (0 < r) ↔ ¬ r = 0 := by omega
  rcases hmm with rfl | rfl | rfl | rfl | rfl
  · simp
  · by_cases hr : r = 0 <;> simp [hr]
    omega
  · by_cases hr : r = 0 <;> simp [hr]
    omega
  · by_cases hr : r = 0
    · subst hr; have x1 : ¬ (0 : Int) > c - 0 := by omega
      have x2 : ¬ (0 : Int) = c - 0 := by omega
      rw [if_neg (by decide), if_neg (by decide), if_pos rfl, if_neg x1, if_neg x2]
      simp
    · by_cases h3 : r > c - r
      · have h4 : c - r < r := h3
        simp [h3, hr]
      · have h4 : ¬ c - r < r := h3
        by_cases h5 : r = c - r
        · rw [if_neg (by decide), if_neg (by decide), if_pos rfl, if_neg h3, if_pos h5]
          simp [h4, ← h5, hr]
          by_cases h6 : q % 2 = 1 <;> simp [h6]
        · simp [h3, h4, h5]
  · by_cases hr : r = 0 <;> cases neg <;> simp [hr]
    omega
theorem rsignv_big {neg : Bool} {z : Int} (h : 9223372036854775808 < z) : signv neg z = (0, 4) := by
  unfold signv
  cases neg
  · simp; omega
  · simp; omega
theorem rnegv_eq {a b c : Int} : negv a b c = if (decide (ab a * ab b = 0)) = true then false else (((decide (a < 0)) != (decide (b < 0))) != (decide (c < 0))) := by
  unfold negv
  have e : (ab a * ab b = 0) ↔ (a * b = 0) := by
    rw [Int.mul_eq_zero, Int.mul_eq_zero, ab_zero, ab_zero]
  by_cases h : a * b = 0
  · simp [e, h]
  · simp [e, h]
theorem accountingref02_MulDiv.j2_eq {z : Int} {neg : Bool} (h0 : 0 ≤ z) (h1 : z ≤ 18446744073709551615) : Ev (fun k => accountingref02_MulDiv.j2 k z neg) (signv neg z) := by
  have J : ∀ b, Ev (fun k => accountingref02_MulDiv.j3 k z neg b) (if b = true then (0, 4) else if z = 9223372036854775808 then (-9223372036854775808, 0) else if neg = true then (wrap64 (-(wrap64 z)), 0) else (wrap64 z, 0)) := by
    intro b; refine Ev.succ ?_
    cases b
    · simp only [accountingref02_MulDiv.j3, Bool.false_eq_true, if_false]
      split
      · exact Ev.const _
      · cases neg
        · simp only [Bool.false_eq_true, if_false]; exact Ev.const _
        · simp only [if_true]; exact Ev.const _
    · simp only [accountingref02_MulDiv.j3, if_true]; exact Ev.const _
  refine Ev.succ ?_
  by_cases h2 : z > 9223372036854775808
  · simp only [accountingref02_MulDiv.j2, if_pos h2]; have := J true; simp only [if_true] at this; rw [rsignv_big h2]; exact this
  · by_cases h3 : z = 9223372036854775808
    · simp only [accountingref02_MulDiv.j2, if_neg h2, if_pos h3]; have := J (!neg); subst h3
      unfold signv
      cases neg
      · simpa using this
      · simpa using this
    · simp only [accountingref02_MulDiv.j2, if_neg h2, if_neg h3]; have := J false
      unfold signv
      simp only [Bool.false_eq_true, if_false, if_neg h3] at this; rw [w64 (n := z) (by omega) (by omega), w64 (n := -z) (by omega) (by omega)] at this; rw [if_neg h2, if_neg (show ¬ z ≥ 9223372036854775808 by omega)]; exact this
theorem accountingref02_MulDiv.eq {a b c : Int} (mode : Int) (ha : inI a) (hb : inI b) (hc : inI c) : Ev (fun k => accountingref02_MulDiv.f k a b c mode) (mdv a b c mode) := by
  unfold mdv
  by_cases hm : mode < 1 ∨ mode > 5
  · rw [if_pos hm]
    have j : Ev (fun k => accountingref02_MulDiv.j0 k a b c mode true) (0, 10) := by
      refine Ev.succ ?_; simp only [accountingref02_MulDiv.j0, if_true]; exact Ev.const _
    by_cases h1 : mode < 1
    · simp only [accountingref02_MulDiv.f, if_pos h1]; exact j
    · have h2 : mode > 5 := by omega
      simp only [accountingref02_MulDiv.f, if_neg h1, decide_eq_true h2]; exact j
  rw [if_neg hm]; have h1 : ¬ mode < 1 := by omega
  have h2 : ¬ mode > 5 := by omega
  simp only [accountingref02_MulDiv.f, if_neg h1, decide_eq_false h2]; refine Ev.succ ?_; simp only [accountingref02_MulDiv.j0, Bool.false_eq_true, if_false]
  by_cases h3 : c = 0
  · simp only [if_pos h3]; exact Ev.const _
  have ba := ab_bound ha; have bb := ab_bound hb; have bc := ab_bound hc; have pc := ab_pos h3; have bp := prod_ab ha hb; simp only [if_neg h3, accountingref02_mag.eq ha, accountingref02_mag.eq hb, accountingref02_mag.eq hc, Option.bind_some, accountingref02_wide.eq ba.1 (show ab a < 18446744073709551616 by omega) bb.1 (show ab b < 18446744073709551616 by omega)]; refine Ev.bind (accountingref02_divide.eq bp.1 (by have := bp.2; omega) pc (by omega)) ?_; have q0 : 0 ≤ ab a * ab b / ab c := Int.ediv_nonneg bp.1 (by omega); have r0 : 0 ≤ ab a * ab b % ab c := Int.emod_nonneg _ (by omega); have r1 : ab a * ab b % ab c < ab c := Int.emod_lt_of_pos _ pc
  have hneg : (((decide (a < 0)) != (decide (b < 0))) != (decide (c < 0))) = negv a b c ∨ ab a * ab b = 0 := by
    by_cases hp : ab a * ab b = 0
    · exact .inr hp
    · refine .inl ?_; rw [rnegv_eq]; simp [hp]
  by_cases hb : ab a * ab b / ab c > 9223372036854775808
  · have big : signv (negv a b c) (sizev a b c mode) = (0, 4) := rsignv_big (by unfold sizev; split <;> omega); rw [big]
    have j : ∀ x y z w u, Ev (fun k => accountingref02_MulDiv.j1 k x y z w u true) (0, 4) := fun x y z w u => by
      refine Ev.succ ?_; simp only [accountingref02_MulDiv.j1, if_true]; exact Ev.const _
    by_cases hh : ab a * ab b / ab c / 18446744073709551616 > 0
    · simp only [if_pos hh]; exact j _ _ _ _ _
    · have : ab a * ab b / ab c % 18446744073709551616 > 9223372036854775808 := by omega
      simp only [if_neg hh, decide_eq_true this]; exact j _ _ _ _ _
  · have hh : ¬ ab a * ab b / ab c / 18446744073709551616 > 0 := by omega
    have hl : ab a * ab b / ab c % 18446744073709551616 = ab a * ab b / ab c := by omega
    simp only [if_neg hh, hl, decide_eq_false hb]; refine Ev.succ ?_; have aw := accountingref02_away.eq (mode := mode) (neg := ((decide (a < 0)) != (decide (b < 0))) != (decide (c < 0))) q0 (by omega) r0 r1 (show ab c < 18446744073709551616 by omega); simp only [accountingref02_MulDiv.j1, Bool.false_eq_true, if_false, accountingref02_mag.eq hc, Option.bind_some, aw]; have uw : IntKind.u64.wrap (ab a * ab b / ab c + 1) = ab a * ab b / ab c + 1 := u64w (by omega) (by omega)
    unfold sizev
    rcases hneg with hneg | hp
    · rw [hneg]
      split
      · rw [uw]; exact accountingref02_MulDiv.j2_eq (by omega) (by omega)
      · rw [Int.add_zero]; exact accountingref02_MulDiv.j2_eq q0 (by omega)
    · have z1 : ∀ n, awayv mode n (ab a * ab b / ab c) (ab a * ab b % ab c) (ab c) = false := fun n => by unfold awayv; simp [hp]
      simp only [z1, Bool.false_eq_true, if_false, Int.add_zero]; have := accountingref02_MulDiv.j2_eq (z := ab a * ab b / ab c) (neg := ((decide (a < 0)) != (decide (b < 0))) != (decide (c < 0))) q0 (by omega); have s0 : ∀ n, signv n (ab a * ab b / ab c) = (0, 0) := fun n => by unfold signv; rw [hp]; cases n <;> simp
      rw [s0] at this ⊢; exact this
theorem accountingref02_Mod.eq {a b c : Int} (ha : inI a) (hb : inI b) (hc : inI c) : Ev (fun k => accountingref02_Mod.f k a b c) (modv a b c) := by
  unfold modv accountingref02_Mod.f
  by_cases h3 : c = 0
  · simp only [if_pos h3]; exact Ev.const _
  have ba := ab_bound ha; have bb := ab_bound hb; have bc := ab_bound hc; have pc := ab_pos h3; have bp := prod_ab ha hb; simp only [if_neg h3, accountingref02_mag.eq ha, accountingref02_mag.eq hb, accountingref02_mag.eq hc, Option.bind_some, accountingref02_wide.eq ba.1 (show ab a < 18446744073709551616 by omega) bb.1 (show ab b < 18446744073709551616 by omega)]; refine Ev.bind (accountingref02_divide.eq bp.1 (by have := bp.2; omega) pc (by omega)) ?_; have r0 : 0 ≤ ab a * ab b % ab c := Int.emod_nonneg _ (by omega); have r1 : ab a * ab b % ab c < ab c := Int.emod_lt_of_pos _ pc
  have sg : a * b = if ((decide (a < 0)) != (decide (b < 0))) = true then -(ab a * ab b) else ab a * ab b := by
    unfold ab
    by_cases x : a < 0 <;> by_cases y : b < 0 <;> simp [x, y, Int.neg_mul, Int.mul_neg]
  have e1 : ∀ z : Int, 0 ≤ z → z < ab c → wrap64 z = z := fun z z0 z1 => w64 (by omega) (by omega); rw [sg]
  by_cases hz : ab a * ab b % ab c > 0
  · simp only [if_pos hz]
    by_cases n : ((decide (a < 0)) != (decide (b < 0))) = true
    · simp only [if_pos n]; rw [u64w (n := ab c - ab a * ab b % ab c) (by omega) (by omega), e1 (ab c - ab a * ab b % ab c) (by omega) (by omega)]; have h := Int.emod_add_mul_ediv (ab a * ab b) (ab c)
      have : -(ab a * ab b) = (ab c - ab a * ab b % ab c) + ab c * (-(ab a * ab b / ab c) - 1) := by
        rw [Int.mul_sub, Int.mul_neg]; omega
      have z := Int.emod_eq_of_lt (a := ab c - ab a * ab b % ab c) (b := ab c) (by omega) (by omega); rw [this, Int.add_mul_emod_self_left, z]; exact Ev.const _
    · simp only [if_neg n]; rw [e1 _ r0 r1]; exact Ev.const _
  · have hz0 : ab a * ab b % ab c = 0 := by omega
    simp only [if_neg hz]
    have z : (if ((decide (a < 0)) != (decide (b < 0))) = true then -(ab a * ab b) else ab a * ab b) % ab c = 0 := by
      split
      · exact Int.emod_eq_zero_of_dvd (Int.dvd_neg.2 (Int.dvd_of_emod_eq_zero hz0))
      · exact hz0
    rw [z, hz0, w64 (n := 0) (by omega) (by omega)]; exact Ev.const _
end Go.Proofs.Ytadognlkefhoiaa.M
end
section
namespace Go.Proofs.Ytadognlkefhoiaa.M
open Go.RowKit Go.Proofs.YtadognlkefhoiaaW.PrintWords Go.Proofs.YtadognlkefhoiaaW.PrintLast Go.Proofs.YtadognlkefhoiaaW.PrintMore
attribute [local go_sem] max2_int min2_int max_two min_two max_three min_three max_four min_four
set_option linter.unusedVariables false
set_option linter.unusedSimpArgs false
def accountingref03_Apply.f (k : Nat) (a0_0 : Int) (a0_1 : Int) (a1 : Int) (a2 : Int) : Option (Int × Int) := (accountingref03_Right.f k a0_0 a0_1).bind fun t102 => (if t102 = true then ((accountingref02_MulDiv.f k a0_0 a1 a0_1 a2).bind fun bt103 => (some (bt103.1, bt103.2))) else (some (0, 2)))
set_option maxHeartbeats 8000000 in
set_option maxRecDepth 100000 in
theorem accountingref03_Apply.calls (k : Nat) (a0_0 : Int) (a0_1 : Int) (a1 : Int) (a2 : Int) (r1 : Int) (r2 : Int) (w : World) (h : accountingref03_Apply.f k a0_0 a0_1 a1 a2 = some (r1, r2)) :
    Calls Try.prog 40 #[.agg #[.int .i64 a0_0, .int .i64 a0_1], .int .i64 a1, .int .i64 a2] w fun e w' => e = .returned (.tuple #[.int .i64 r1, .int .i64 r2]) ∧ Below w.heap.size w w' := by
 have hu23 := Try.underlying23; have hu3 := Try.underlying3; have HB := Aside0.mk (Below.refl w.heap.size w); have H : ((accountingref03_Right.f k a0_0 a0_1).bind fun t102 => (if t102 = true then ((accountingref02_MulDiv.f k a0_0 a1 a0_1 a2).bind fun bt103 => (some (bt103.1, bt103.2))) else (some (0, 2)))) = some (r1, r2) := h; clear h; replace H := Option.bind_eq_some_iff.mp H; obtain ⟨t102, A40, H⟩ := H; replace H : (if t102 = true then ((accountingref02_MulDiv.f k a0_0 a1 a0_1 a2).bind fun bt103 => (some (bt103.1, bt103.2))) else (some (0, 2))) = some (r1, r2) := H; have A4 := Aside0.mk A40; clear A40
 by_cases c5 : t102 = true
 ·subst c5; have H1 : ((accountingref02_MulDiv.f k a0_0 a1 a0_1 a2).bind fun bt103 => (some (bt103.1, bt103.2))) = some (r1, r2) := by rw [if_pos rfl] at H; exact H
  clear H; have H := H1; clear H1; replace H := Option.bind_eq_some_iff.mp H; obtain ⟨⟨t103, t104⟩, A60, H⟩ := H; replace H : (some (t103, t104)) = some (r1, r2) := H; have A6 := Aside0.mk A60; clear A60; simp only [Option.some.injEq, Prod.mk.injEq] at H; obtain ⟨rfl, rfl⟩ := H; go_enter Try.func40, Try.ntmps40
  go_wp2_with (first | ((with_reducible refine gate_dst (N := 3) rfl ?_); refine box_event ?hg (N := 3) ?hd (cs := #[.int .i64 a0_0, .int .i64 a0_1]) (t := 23) ?hr ?_; (case hd => rfl); (case hg => rfl); (case hr => first | (go_simp; done) | (go_simp; rfl)); intro gb101 hg w7 hbox hb; have n0_ := Aside0.mk (below_step pbb2_2 hb); have n1_ := Aside0.mk (hbox); have n2_ := Aside0.mk ((pbb2_3 : w.heap.size ≤ gb101)); have n3_ := Aside0.mk ((pbb2_3 : w.heap.size ≤ gb101)); clear HB; have HB := n0_; have BK101 := n1_; have GW101 := n2_; have GE101 := n3_; clear n0_ n1_ n2_ n3_; clear hb hbox hg; have hcz8_0 : w7.cell? ⟨gb101, 0, none⟩ = some (.int .i64 a0_0) := (blk_cell BK101.out 0).trans rfl; have hcz8_1 : w7.cell? ⟨gb101, 1, none⟩ = some (.int .i64 a0_1) := (blk_cell BK101.out 1).trans rfl; have hfz8_0 := blk_frozen BK101.out 0; have hfz8_1 := blk_frozen BK101.out 1) | ((with_reducible refine gate_callee (f := 19) rfl ?_); refine goesL_ (some 9) rfl rfl Try.func19 (by kernel_rfl) rfl #[.agg #[.int .i64 a0_0, .int .i64 a0_1]] rfl pbb3_0 ?_; (with_reducible refine (accountingref03_Right.calls k a0_0 a0_1 true _ A4.out).mono ?_); rintro e w9 ⟨rfl, hb⟩; refine ⟨_, rfl, ?_⟩; have n0_ := Aside0.mk (blk_below (g := gb101) (o := .cells #[.int .i64 a0_0, .int .i64 a0_1] 23 (0, 0)) pbb2_4 hb); have n1_ := Aside0.mk (below_step pbb2_5 hb); clear BK101; clear HB; have BK101 := n0_; have HB := n1_; clear n0_ n1_; (try clear hb); (try clear hb2); (try clear hk); (try clear hi); have hcz10_0 : w9.cell? ⟨gb101, 0, none⟩ = some (.int .i64 a0_0) := (blk_cell BK101.out 0).trans rfl; have hcz10_1 : w9.cell? ⟨gb101, 1, none⟩ = some (.int .i64 a0_1) := (blk_cell BK101.out 1).trans rfl; have hfz10_0 := blk_frozen BK101.out 0; have hfz10_1 := blk_frozen BK101.out 1) | ((with_reducible refine gate_callee (f := 39) rfl ?_); refine goesL_ (some 17) rfl rfl Try.func39 (by kernel_rfl) rfl #[.int .i64 a0_0, .int .i64 a1, .int .i64 a0_1, .int .i64 a2] rfl pbb3_0 ?_; (with_reducible refine (accountingref02_MulDiv.calls k a0_0 a1 a0_1 a2 t103 t104 _ A6.out).mono ?_); rintro e w' ⟨rfl, ⟨nd, rfl⟩⟩; refine ⟨_, rfl, ?_⟩))
  go_ret2
  exact ⟨pbb2_6, pbb2_5⟩
 ·replace c5 := Bool.eq_false_iff.mpr c5; subst c5; have H1 : (some (0, 2)) = some (r1, r2) := by rw [if_neg (show ¬ (false = true) by decide)] at H; exact H
  clear H; have H := H1; clear H1; simp only [Option.some.injEq, Prod.mk.injEq] at H; obtain ⟨rfl, rfl⟩ := H; go_enter Try.func40, Try.ntmps40
  go_wp2_with (first | ((with_reducible refine gate_dst (N := 3) rfl ?_); refine box_event ?hg (N := 3) ?hd (cs := #[.int .i64 a0_0, .int .i64 a0_1]) (t := 23) ?hr ?_; (case hd => rfl); (case hg => rfl); (case hr => first | (go_simp; done) | (go_simp; rfl)); intro gb101 hg w11 hbox hb; have n0_ := Aside0.mk (below_step pbb2_2 hb); have n1_ := Aside0.mk (hbox); have n2_ := Aside0.mk ((pbb2_3 : w.heap.size ≤ gb101)); have n3_ := Aside0.mk ((pbb2_3 : w.heap.size ≤ gb101)); clear HB; have HB := n0_; have BK101 := n1_; have GW101 := n2_; have GE101 := n3_; clear n0_ n1_ n2_ n3_; clear hb hbox hg; have hcz12_0 : w11.cell? ⟨gb101, 0, none⟩ = some (.int .i64 a0_0) := (blk_cell BK101.out 0).trans rfl; have hcz12_1 : w11.cell? ⟨gb101, 1, none⟩ = some (.int .i64 a0_1) := (blk_cell BK101.out 1).trans rfl; have hfz12_0 := blk_frozen BK101.out 0; have hfz12_1 := blk_frozen BK101.out 1) | ((with_reducible refine gate_callee (f := 19) rfl ?_); refine goesL_ (some 9) rfl rfl Try.func19 (by kernel_rfl) rfl #[.agg #[.int .i64 a0_0, .int .i64 a0_1]] rfl pbb3_0 ?_; (with_reducible refine (accountingref03_Right.calls k a0_0 a0_1 false _ A4.out).mono ?_); rintro e w13 ⟨rfl, hb⟩; refine ⟨_, rfl, ?_⟩; have n0_ := Aside0.mk (blk_below (g := gb101) (o := .cells #[.int .i64 a0_0, .int .i64 a0_1] 23 (0, 0)) pbb2_4 hb); have n1_ := Aside0.mk (below_step pbb2_5 hb); clear BK101; clear HB; have BK101 := n0_; have HB := n1_; clear n0_ n1_; (try clear hb); (try clear hb2); (try clear hk); (try clear hi)))
  go_ret2
  exact ⟨pbb2_6, pbb2_5⟩
end Go.Proofs.Ytadognlkefhoiaa.M
end
section
namespace Go.Proofs.Ytadognlkefhoiaa.M
open Go.RowKit Go.Proofs.YtadognlkefhoiaaW.PrintWords Dv
set_option linter.unusedVariables false
set_option linter.unusedSimpArgs false
theorem accountingref03_Apply.eq {n d a : Int} (mode : Int) (hn : inI n) (hd : inI d) (ha : inI a) : Ev (fun k => accountingref03_Apply.f k n d a mode) (applyv n d a mode) := by
  refine Ev.bind (accountingref03_Right.eq hn hd) ?_
  unfold applyv
  by_cases c : rightv n d = true
  · simp only [if_pos c]; exact Ev.bind (accountingref02_MulDiv.eq mode hn ha hd) (Ev.const _)
  · simp only [if_neg c]; exact Ev.const _
end Go.Proofs.Ytadognlkefhoiaa.M
end
section
namespace Go.Proofs.Ytadognlkefhoiaa.M
open Go.RowKit Go.Proofs.YtadognlkefhoiaaW.PrintWords Go.Proofs.YtadognlkefhoiaaW.PrintLast Go.Proofs.YtadognlkefhoiaaW.PrintMore
attribute [local go_sem] max2_int min2_int max_two min_two max_three min_three max_four min_four
set_option linter.unusedVariables false
set_option linter.unusedSimpArgs false
mutual
def accountingref08_total.j0 : Nat → List Int → Bool → Option (Int × Int)
  | 0, _, _ => none
  | k + 1, x1, x17 => if x17 = true then (some (0, 4)) else (accountingref08_total.l0 k x1 0)
def accountingref08_total.l0 : Nat → List Int → Int → Option (Int × Int)
  | 0, _, _ => none
  | k + 1, x1, x6 => if x6 < (x1.length : Int) then (if 0 ≤ x6 then (if (rd x1 x6) < 0 then (some (0, 2)) else (accountingref08_total.l0 k x1 (wrap64 (x6 + 1)))) else (none)) else (accountingref08_total.l1 k x1 0 0)
def accountingref08_total.l1 : Nat → List Int → Int → Int → Option (Int × Int)
  | 0, _, _, _ => none
  | k + 1, x1, x7, x8 => if x8 < (x1.length : Int) then (if 0 ≤ x8 then (if (rd x1 x8) > (wrap64 (1000000000000000 - x7)) then (some (0, 4)) else (accountingref08_total.l1 k x1 (wrap64 (x7 + (rd x1 x8))) (wrap64 (x8 + 1)))) else (none)) else (if x7 = 0 then (some (0, 2)) else (some (x7, 0)))
end
def accountingref08_total.f (k : Nat) (a0 : Int) (l1 : List Int) : Option (Int × Int) := if (l1.length : Int) > 200 then (some (0, 9)) else (if a0 > 1000000000000000 then (accountingref08_total.j0 k l1 true) else (accountingref08_total.j0 k l1 (decide (a0 < (-1000000000000000)))))
set_option maxHeartbeats 8000000 in
set_option maxRecDepth 100000 in
theorem accountingref08_total.calls (k : Nat) (a0 : Int) (A1 : Option Addr) (c1 : Nat) (l1 : List Int) (r1 : Int) (r2 : Int) (w : World) (hr1 : Kd.C (Kd.int .i64) w A1 l1.length l1) (hc1 : l1.length ≤ c1) (h : accountingref08_total.f k a0 l1 = some (r1, r2)) :
    Calls Try.prog 41 #[.int .i64 a0, .slice A1 l1.length c1] w fun e w' => e = .returned (.tuple #[.int .i64 r1, .int .i64 r2]) ∧ Drawn0 w w' := by
 have hu3 := Try.underlying3; have HR1 := Aside0.mk hr1; have HC1 := Aside0.mk hc1; clear hr1 hc1; have H : (if (l1.length : Int) > 200 then (some (0, 9)) else (if a0 > 1000000000000000 then (accountingref08_total.j0 k l1 true) else (accountingref08_total.j0 k l1 (decide (a0 < (-1000000000000000)))))) = some (r1, r2) := h; clear h
 by_cases c3 : (l1.length : Int) > 200
 ·rw [if_pos c3] at H; have c3b0 : decide (200 < (l1.length : Int)) = true := decide_eq_true c3; have c3b1 : decide (200 < l1.length) = true := decide_eq_true (by omega); clear c3; simp only [Option.some.injEq, Prod.mk.injEq] at H; obtain ⟨rfl, rfl⟩ := H; go_enter Try.func41, Try.ntmps41
  go_wp2
  go_ret2
  exact ⟨pbb2_0, pbb2_1⟩
 ·rw [if_neg c3] at H; have c3b0 : decide (200 < (l1.length : Int)) = false := decide_eq_false c3; have c3b1 : decide (200 < l1.length) = false := decide_eq_false (by omega); clear c3; have HC4 := Aside0.mk H; clear H; go_enter Try.func41, Try.ntmps41
  go_upto_region 3 with (fail)
  go_cut [17] (fun v17 wc => ∃ (kq : Nat) (x17_3 : Bool), v17 = .bool x17_3 ∧ Aside0 (accountingref08_total.j0 kq l1 x17_3 = some (r1, r2)) ∧ Aside0 (kq ≤ k) ∧ Drawn0 w wc)
  case first =>
   have H := HC4.out; clear HC4
   by_cases c5 : a0 > 1000000000000000
   ·rw [if_pos c5] at H; have c5b0 : decide (1000000000000000 < a0) = true := decide_eq_true c5; clear c5; (first | rw [c5b0] | (simp only [i64_w, i32_w]; rw [c5b0]) | skip); have H' := Aside0.mk H; clear H
    go_wp2
    go_meet
    case rel => exact ⟨_, (true), pbb2_0, H', ⟨by first | omega | exact Nat.le_refl _⟩, pbb2_1⟩
   ·rw [if_neg c5] at H; have c5b0 : decide (1000000000000000 < a0) = false := decide_eq_false c5; clear c5; (first | rw [c5b0] | (simp only [i64_w, i32_w]; rw [c5b0]) | skip); have H' := Aside0.mk H; clear H
    go_wp2
    go_meet
    case rel => exact ⟨_, (decide (a0 < (-1000000000000000))), pbb2_0, H', ⟨by first | omega | exact Nat.le_refl _⟩, pbb2_1⟩
  case rest =>
   clear HC4; (try clear c1); (try clear p2); (try clear c3); (try clear c3b0); (try clear c3b1); (try clear c4); (try clear c5); (try clear c5b0); obtain ⟨kq, x17_3, rfl, HA, HJ3, ⟨mc3, rfl⟩⟩ := hcut
   cases kq with
   | zero => exact absurd HA.out (by simp [accountingref08_total.j0])
   | succ kj3 =>
    have H := HA.out; clear HA; simp only [accountingref08_total.j0] at H
    by_cases c6 : x17_3 = true
    ·subst c6; have H1 : (some (0, 4)) = some (r1, r2) := by rw [if_pos rfl] at H; exact H
     clear H; have H := H1; clear H1; simp only [Option.some.injEq, Prod.mk.injEq] at H; obtain ⟨rfl, rfl⟩ := H
     go_wp2
     go_ret2
     exact ⟨pbb2_0, pbb2_1⟩
    ·replace c6 := Bool.eq_false_iff.mpr c6; subst c6; have H1 : (accountingref08_total.l0 kj3 l1 0) = some (r1, r2) := by rw [if_neg (show ¬ (false = true) by decide)] at H; exact H
     clear H; have H := H1; clear H1; have H' := Aside0.mk H; clear H
     go_wp2
     go_loopg [6] kj3 (fun kq v6 w' => ∃ (x6_2 : Int), v6 = .int .i64 x6_2 ∧ Aside0 (accountingref08_total.l0 kq l1 x6_2 = some (r1, r2)) ∧ Aside0 (kq ≤ kj3) ∧ Drawn0 w w')
     case atStart => exact ⟨(0), pbb2_0, H', ⟨Nat.le_refl _⟩, pbb2_1⟩
     case round =>
      clear H'; (try clear c1); (try clear p2); (try clear c3); (try clear c3b0); (try clear c3b1); (try clear c4); (try clear c5); (try clear c5b0); (try clear c6); (try clear p2); obtain ⟨x6_2, rfl, HA, HK2, ⟨m2, rfl⟩⟩ := hrel
      cases gk with
      | zero => exact absurd HA.out (by simp [accountingref08_total.l0])
      | succ k2 =>
       have H := HA.out; clear HA; simp only [accountingref08_total.l0] at H
       by_cases c7 : x6_2 < (l1.length : Int)
       ·rw [if_pos c7] at H; have c7b0 : decide (x6_2 < (l1.length : Int)) = true := decide_eq_true c7; clear c7
        by_cases c8 : 0 ≤ x6_2
        ·rw [if_pos c8] at H; have c8b0 : decide (0 ≤ x6_2) = true := decide_eq_true c8; clear c8
         by_cases c9 : (rd l1 x6_2) < 0
         ·rw [if_pos c9] at H; have c9b0 : decide ((rd l1 x6_2) < 0) = true := decide_eq_true c9; clear c9; simp only [Option.some.injEq, Prod.mk.injEq] at H; obtain ⟨rfl, rfl⟩ := H; have p101 : 0 ≤ (x6_2 : Int) := of_decide_eq_true pbb4_0; have q101 : x6_2 < (l1.length : Int) := of_decide_eq_true pbb4_0; obtain ⟨ad101, e101, hx101_0⟩ := Kd.at_int HR1.out x6_2 p101 q101
          cases e101
          replace p101 := eq_true p101; replace q101 := eq_true q101
          go_wp2
          go_ret2
          exact ⟨pbb2_0, pbb2_1⟩
         ·rw [if_neg c9] at H; have c9b0 : decide ((rd l1 x6_2) < 0) = false := decide_eq_false c9; clear c9; have H' := Aside0.mk H; clear H; have p101 : 0 ≤ (x6_2 : Int) := of_decide_eq_true pbb4_0; have q101 : x6_2 < (l1.length : Int) := of_decide_eq_true pbb4_0; obtain ⟨ad101, e101, hx101_0⟩ := Kd.at_int HR1.out x6_2 p101 q101
          cases e101
          replace p101 := eq_true p101; replace q101 := eq_true q101
          go_wp2
          go_roundg k2
          case measure => have := HJ3.out; have := HK2.out; omega
          case rel => exact ⟨(wrap64 (x6_2 + 1)), pbb2_0, H', ⟨by have := HJ3.out; have := HK2.out; omega⟩, pbb2_1⟩
        ·rw [if_neg c8] at H; exact absurd H (by simp)
       ·rw [if_neg c7] at H; have c7b0 : decide (x6_2 < (l1.length : Int)) = false := decide_eq_false c7; clear c7; have H' := Aside0.mk H; clear H
        go_wp2
        go_loopg [7, 8] k2 (fun kq v7 v8 w' => ∃ (x7_3 : Int) (x8_3 : Int), v7 = .int .i64 x7_3 ∧ v8 = .int .i64 x8_3 ∧ Aside0 (accountingref08_total.l1 kq l1 x7_3 x8_3 = some (r1, r2)) ∧ Aside0 (kq ≤ k2) ∧ Drawn0 w w')
        case atStart => exact ⟨(0), (0), pbb2_0, pbb2_0, H', ⟨Nat.le_refl _⟩, pbb2_1⟩
        case round =>
         clear H'; (try clear c1); (try clear p1); (try clear q1); (try clear hx1); (try clear p2); (try clear c3); (try clear c3b0); (try clear c3b1); (try clear c4); (try clear c5); (try clear c5b0); (try clear c6); (try clear p6); (try clear c7); (try clear c7b0); (try clear c8); (try clear c8b0); (try clear c9); (try clear c9b0); (try clear hx101_0); (try clear p101); (try clear p2); (try clear q101); obtain ⟨x7_3, x8_3, rfl, rfl, HA, HK3, ⟨m3, rfl⟩⟩ := hrel
         cases gk with
         | zero => exact absurd HA.out (by simp [accountingref08_total.l1])
         | succ k3 =>
          have H := HA.out; clear HA; simp only [accountingref08_total.l1] at H
          by_cases c10 : x8_3 < (l1.length : Int)
          ·rw [if_pos c10] at H; have c10b0 : decide (x8_3 < (l1.length : Int)) = true := decide_eq_true c10; clear c10
           by_cases c11 : 0 ≤ x8_3
           ·rw [if_pos c11] at H; have c11b0 : decide (0 ≤ x8_3) = true := decide_eq_true c11; clear c11
            by_cases c12 : (rd l1 x8_3) > (wrap64 (1000000000000000 - x7_3))
            ·rw [if_pos c12] at H; have c12b0 : decide ((wrap64 (1000000000000000 - x7_3)) < (rd l1 x8_3)) = true := decide_eq_true c12; clear c12; simp only [Option.some.injEq, Prod.mk.injEq] at H; obtain ⟨rfl, rfl⟩ := H; have p102 : 0 ≤ (x8_3 : Int) := of_decide_eq_true pbb4_0; have q102 : x8_3 < (l1.length : Int) := of_decide_eq_true pbb4_0; obtain ⟨ad102, e102, hx102_0⟩ := Kd.at_int HR1.out x8_3 p102 q102
             cases e102
             replace p102 := eq_true p102; replace q102 := eq_true q102
             go_wp2
             go_ret2
             exact ⟨pbb2_0, pbb2_1⟩
            ·rw [if_neg c12] at H; have c12b0 : decide ((wrap64 (1000000000000000 - x7_3)) < (rd l1 x8_3)) = false := decide_eq_false c12; clear c12; have H' := Aside0.mk H; clear H; have p102 : 0 ≤ (x8_3 : Int) := of_decide_eq_true pbb4_0; have q102 : x8_3 < (l1.length : Int) := of_decide_eq_true pbb4_0; obtain ⟨ad102, e102, hx102_0⟩ := Kd.at_int HR1.out x8_3 p102 q102
             cases e102
             replace p102 := eq_true p102; replace q102 := eq_true q102; have p103 : 0 ≤ (x8_3 : Int) := of_decide_eq_true pbb4_0; have q103 : x8_3 < (l1.length : Int) := of_decide_eq_true pbb4_0; obtain ⟨ad103, e103, hx103_0⟩ := Kd.at_int HR1.out x8_3 p103 q103; obtain rfl : ad102 = ad103 := (by injection e103); replace p103 := eq_true p103; replace q103 := eq_true q103
             go_wp2
             go_roundg k3
             case measure => have := HJ3.out; have := HK2.out; have := HK3.out; omega
             case rel => exact ⟨(wrap64 (x7_3 + (rd l1 x8_3))), (wrap64 (x8_3 + 1)), pbb2_0, pbb2_0, H', ⟨by have := HJ3.out; have := HK2.out; have := HK3.out; omega⟩, pbb2_1⟩
           ·rw [if_neg c11] at H; exact absurd H (by simp)
          ·rw [if_neg c10] at H; have c10b0 : decide (x8_3 < (l1.length : Int)) = false := decide_eq_false c10; clear c10
           by_cases c13 : x7_3 = 0
           ·rw [if_pos c13] at H; have c13b0 : (x7_3 == 0) = true := beq_iff_eq.mpr c13; have c13b1 : (x7_3 != 0) = false := bne_eq_false_iff_eq.mpr c13; clear c13; simp only [Option.some.injEq, Prod.mk.injEq] at H; obtain ⟨rfl, rfl⟩ := H
            go_wp2
            go_ret2
            exact ⟨pbb2_0, pbb2_1⟩
           ·rw [if_neg c13] at H; have c13b0 : (x7_3 == 0) = false := beq_eq_false_iff_ne.mpr c13; have c13b1 : (x7_3 != 0) = true := bne_iff_ne.mpr c13; simp only [Option.some.injEq, Prod.mk.injEq] at H; obtain ⟨rfl, rfl⟩ := H
            go_wp2
            go_ret2
            exact ⟨pbb2_0, pbb2_1⟩
mutual
def accountingref08_Shares.j0 : Nat → Int → List Int → Int → Int → Option (List Int × Int)
  | 0, _, _, _, _ => none
  | k + 1, x0, x1, x6, x8 => if 0 ≤ (x1.length : Int) then (if ((x1.length : Int) : Int).toNat ≤ 35184372088832 then (accountingref08_Shares.l0 k x0 x1 x6 x8 (List.replicate ((x1.length : Int) : Int).toNat 0) (List.replicate ((x1.length : Int) : Int).toNat 0) x8 0) else (none)) else (none)
def accountingref08_Shares.l0 : Nat → Int → List Int → Int → Int → List Int → List Int → Int → Int → Option (List Int × Int)
  | 0, _, _, _, _, _, _, _, _ => none
  | k + 1, x0, x1, x6, x8, x9, x10, x11, x12 => if x12 < (x1.length : Int) then (if 0 ≤ x12 then ((accountingref02_MulDiv.f k x8 (rd x1 x12) x6 1).bind fun bt110 => ((accountingref02_Mod.f k x8 (rd x1 x12) x6).bind fun bt113 => (if x12 < (x9.length : Int) then ((some (x9.set (x12 : Int).toNat bt110.1 : List Int)).bind fun y115 => (if x12 < (x10.length : Int) then (accountingref08_Shares.l0 k x0 x1 x6 x8 y115 (x10.set (x12 : Int).toNat bt113.1) (wrap64 (x11 - (rd y115 x12))) (wrap64 (x12 + 1))) else (none))) else (none)))) else (none)) else (accountingref08_Shares.l1 k x0 x9 x10 x11)
def accountingref08_Shares.l1 : Nat → Int → List Int → List Int → Int → Option (List Int × Int)
  | 0, _, _, _, _ => none
  | k + 1, x0, x9, x10, x11 => if x11 > 0 then (accountingref08_Shares.l2 k x0 x9 x10 x11 0 0) else (accountingref08_Shares.l3 k x0 x9 0)
def accountingref08_Shares.l2 : Nat → Int → List Int → List Int → Int → Int → Int → Option (List Int × Int)
  | 0, _, _, _, _, _, _ => none
  | k + 1, x0, x9, x10, x11, x17, x18 => if x18 < (x10.length : Int) then (if 0 ≤ x18 then (if 0 ≤ x17 then (if x17 < (x10.length : Int) then (if (rd x10 x18) > (rd x10 x17) then (accountingref08_Shares.l2 k x0 x9 x10 x11 x18 (wrap64 (x18 + 1))) else (accountingref08_Shares.l2 k x0 x9 x10 x11 x17 (wrap64 (x18 + 1)))) else (none)) else (none)) else (none)) else (if 0 ≤ x17 then (if x17 < (x9.length : Int) then (if x17 < (x10.length : Int) then (accountingref08_Shares.l1 k x0 (x9.set (x17 : Int).toNat (wrap64 ((rd x9 x17) + 1))) (x10.set (x17 : Int).toNat (-1)) (wrap64 (x11 - 1))) else (none)) else (none)) else (none))
def accountingref08_Shares.l3 : Nat → Int → List Int → Int → Option (List Int × Int)
  | 0, _, _, _ => none
  | k + 1, x0, x9, x19 => if x19 < (x9.length : Int) then (if x0 < 0 then (if 0 ≤ x19 then (accountingref08_Shares.l3 k x0 (x9.set (x19 : Int).toNat (wrap64 (-(rd x9 x19)))) (wrap64 (x19 + 1))) else (none)) else (some (x9, 0))) else (some (x9, 0))
end
def accountingref08_Shares.f (k : Nat) (a0 : Int) (l1 : List Int) : Option (List Int × Int) := (accountingref08_total.f k a0 l1).bind fun bt101 => (if bt101.2 = 0 then (if a0 < 0 then (accountingref08_Shares.j0 k a0 l1 bt101.1 (wrap64 (-a0))) else (accountingref08_Shares.j0 k a0 l1 bt101.1 a0)) else (some (([] : List Int), bt101.2)))
set_option maxHeartbeats 8000000 in
set_option maxRecDepth 100000 in
theorem accountingref08_Shares.calls (k : Nat) (a0 : Int) (A1 : Option Addr) (c1 : Nat) (l1 : List Int) (r1 : List Int) (r2 : Int) (w : World) (hr1 : Kd.C (Kd.int .i64) w A1 l1.length l1) (hc1 : l1.length ≤ c1) (h : accountingref08_Shares.f k a0 l1 = some (r1, r2)) :
    Calls Try.prog 28 #[.int .i64 a0, .slice A1 l1.length c1] w fun e w' => ∃ v0_ : Value, e = .returned (.tuple #[v0_, .int .i64 r2]) ∧ Kd.R (Kd.int .i64) 3 w' w.heap.size (fun _ => True) v0_ r1 ∧ Below w.heap.size w w' := by
 have hu3 := Try.underlying3; have HR1 := Aside0.mk hr1; have HC1 := Aside0.mk hc1; clear hr1 hc1; have HB := Aside0.mk (Below.refl w.heap.size w); have H : ((accountingref08_total.f k a0 l1).bind fun bt101 => (if bt101.2 = 0 then (if a0 < 0 then (accountingref08_Shares.j0 k a0 l1 bt101.1 (wrap64 (-a0))) else (accountingref08_Shares.j0 k a0 l1 bt101.1 a0)) else (some (([] : List Int), bt101.2)))) = some (r1, r2) := h; clear h; replace H := Option.bind_eq_some_iff.mp H; obtain ⟨⟨t101, t102⟩, A30, H⟩ := H; replace H : (if t102 = 0 then (if a0 < 0 then (accountingref08_Shares.j0 k a0 l1 t101 (wrap64 (-a0))) else (accountingref08_Shares.j0 k a0 l1 t101 a0)) else (some (([] : List Int), t102))) = some (r1, r2) := H; have A3 := Aside0.mk A30; clear A30
 by_cases c4 : t102 = 0
 ·rw [if_pos c4] at H; have c4b0 : (t102 == 0) = true := beq_iff_eq.mpr c4; have c4b1 : (t102 != 0) = false := bne_eq_false_iff_eq.mpr c4; clear c4; have HC5 := Aside0.mk H; clear H; go_enter Try.func28, Try.ntmps28
  go_upto_if 31 with (first | (go_at_call 41; (with_reducible refine (accountingref08_total.calls k a0 _ _ l1 t101 t102 _ ?side1 ?side2 A3.out).mono ?_); (case side1 => repeat (first | exact HR1.out | (with_reducible refine Kd.C_alloc ?_ _) | (with_reducible refine Kd.C_drewN ?_ _) | (with_reducible refine Kd.C_drew ?_))); (case side2 => exact HC1.out); rintro e w' ⟨rfl, ⟨nd, rfl⟩⟩; (try first | exact ⟨rfl, _, World.drewN_drewN _ _ _⟩ | exact ⟨rfl, _, Eq.trans (World.drewN_drewN _ _ _) (congrArg (World.drewN _) (Nat.add_assoc _ _ _))⟩)))
  repeat (go_quiet (first | (go_at_call 41; (with_reducible refine (accountingref08_total.calls k a0 _ _ l1 t101 t102 _ ?side1 ?side2 A3.out).mono ?_); (case side1 => repeat (first | exact HR1.out | (with_reducible refine Kd.C_alloc ?_ _) | (with_reducible refine Kd.C_drewN ?_ _) | (with_reducible refine Kd.C_drew ?_))); (case side2 => exact HC1.out); rintro e w' ⟨rfl, ⟨nd, rfl⟩⟩; (try first | exact ⟨rfl, _, World.drewN_drewN _ _ _⟩ | exact ⟨rfl, _, Eq.trans (World.drewN_drewN _ _ _) (congrArg (World.drewN _) (Nat.add_assoc _ _ _))⟩))); go_upto_if 31 with (first | (go_at_call 41; (with_reducible refine (accountingref08_total.calls k a0 _ _ l1 t101 t102 _ ?side1 ?side2 A3.out).mono ?_); (case side1 => repeat (first | exact HR1.out | (with_reducible refine Kd.C_alloc ?_ _) | (with_reducible refine Kd.C_drewN ?_ _) | (with_reducible refine Kd.C_drew ?_))); (case side2 => exact HC1.out); rintro e w' ⟨rfl, ⟨nd, rfl⟩⟩; (try first | exact ⟨rfl, _, World.drewN_drewN _ _ _⟩ | exact ⟨rfl, _, Eq.trans (World.drewN_drewN _ _ _) (congrArg (World.drewN _) (Nat.add_assoc _ _ _))⟩))))
  (try simp only [Act.put, List.setIfInBounds_toArray, List.set_cons_zero, List.set_cons_succ])
  go_cut [8] (fun v8 wc => ∃ (kq : Nat) (x8_4 : Int), v8 = .int .i64 x8_4 ∧ Aside0 (accountingref08_Shares.j0 kq a0 l1 t101 x8_4 = some (r1, r2)) ∧ Aside0 (kq ≤ k) ∧ Aside0 (Below w.heap.size w wc))
  case first =>
   have H := HC5.out; clear HC5
   by_cases c6 : a0 < 0
   ·rw [if_pos c6] at H; have c6b0 : decide (a0 < 0) = true := decide_eq_true c6; clear c6; (first | rw [c6b0] | (simp only [i64_w, i32_w]; rw [c6b0]) | skip); have H' := Aside0.mk H; clear H
    go_wp2
    repeat (go_quiet (fail); try go_wp2)
    go_meet
    case rel => exact ⟨_, (wrap64 (-a0)), pbb2_0, H', ⟨by first | omega | exact Nat.le_refl _⟩, ⟨pbb2_2⟩⟩
   ·rw [if_neg c6] at H; have c6b0 : decide (a0 < 0) = false := decide_eq_false c6; clear c6; (first | rw [c6b0] | (simp only [i64_w, i32_w]; rw [c6b0]) | skip); have H' := Aside0.mk H; clear H
    go_wp2
    repeat (go_quiet (fail); try go_wp2)
    go_meet
    case rel => exact ⟨_, (a0), pbb2_0, H', ⟨by first | omega | exact Nat.le_refl _⟩, ⟨pbb2_2⟩⟩
  case rest =>
   clear HC5; (try clear c1); (try clear c2); (try clear p2); (try clear c4); (try clear c4b0); (try clear c4b1); (try clear c6); (try clear c6b0); (try clear p6); obtain ⟨kq, x8_4, rfl, HA, HJ4, HB⟩ := hcut
   cases kq with
   | zero => exact absurd HA.out (by simp [accountingref08_Shares.j0])
   | succ kj4 =>
    have H := HA.out; clear HA; simp only [accountingref08_Shares.j0] at H
    by_cases c7 : 0 ≤ (l1.length : Int)
    ·rw [if_pos c7] at H; have c7b0 := eq_true c7; have c7b1 : decide (0 ≤ (l1.length : Int)) = true := decide_eq_true c7; clear c7
     by_cases c8 : ((l1.length : Int) : Int).toNat ≤ 35184372088832
     ·rw [if_pos c8] at H; have c8b0 := eq_true c8; have c8b1 : decide (((l1.length : Int) : Int).toNat ≤ 35184372088832) = true := decide_eq_true c8; clear c8; obtain ⟨y103, hy103⟩ : ∃ y_ : List Int, y_ = (List.replicate ((l1.length : Int) : Int).toNat 0) := ⟨_, rfl⟩; replace H : (accountingref08_Shares.l0 kj4 a0 l1 t101 x8_4 y103 (List.replicate ((l1.length : Int) : Int).toNat 0) x8_4 0) = some (r1, r2) := by first | (rw [hy103]; with_reducible exact H) | (have H2_ := (Option.bind_some _ _).symm.trans H; rw [hy103]; with_reducible exact H2_) | (have H2_ := (Option.bind_some _ _).symm.trans H; with_reducible exact H2_) | with_reducible exact H | (rw [hy103]; exact H) | exact H
      have Ny103 := Aside0.mk hy103; clear hy103; obtain ⟨y106, hy106⟩ : ∃ y_ : List Int, y_ = (List.replicate ((l1.length : Int) : Int).toNat 0) := ⟨_, rfl⟩; replace H : (accountingref08_Shares.l0 kj4 a0 l1 t101 x8_4 y103 y106 x8_4 0) = some (r1, r2) := by first | (rw [hy106]; with_reducible exact H) | (have H2_ := (Option.bind_some _ _).symm.trans H; rw [hy106]; with_reducible exact H2_) | (have H2_ := (Option.bind_some _ _).symm.trans H; with_reducible exact H2_) | with_reducible exact H | (rw [hy106]; exact H) | exact H
      have Ny106 := Aside0.mk hy106; clear hy106; have H' := Aside0.mk H; clear H
      go_wp2_with (first | ((with_reducible refine gate_dst (N := 36) rfl ?_); refine Kd.R_make (Kd.int .i64) _ 3 rfl (N := 36) rfl 24 _ _ rfl (l1.length : Int) rfl rfl Try.underlying24 (.int .i64 0) 8 info3 rfl (by decide) (by omega) 0 (ok := fun _ => True) (okp := fun _ => True) rfl (fun _ hk => hk) trivial (of_decide_eq_true pbb4_0) (Nat.le_trans (Nat.mul_le_mul_right _ (of_decide_eq_true pbb4_0 : (l1.length : Int).toNat ≤ 35184372088832)) (by omega)) (Below.refl _ _) (Nat.le_refl _) ?_; intro v104 w9 ho10 hb hg_ hnew_; clear hg_ hnew_; (first | rw [← Ny103.out] at ho10 | (simp only [Int.reduceToNat] at ho10; rw [← Ny103.out] at ho10)); have n0_ := Aside0.mk (Kd.R_lower ho10 (below_size pbb2_2)); have n1_ := Aside0.mk (below_step pbb2_2 hb); clear HB; have HO105 := n0_; have HB := n1_; clear n0_ n1_; clear hb ho10) | ((with_reducible refine gate_dst (N := 39) rfl ?_); refine Kd.R_make (Kd.int .i64) _ 3 rfl (N := 39) rfl 24 _ _ rfl (l1.length : Int) rfl rfl Try.underlying24 (.int .i64 0) 8 info3 rfl (by decide) (by omega) 0 (ok := fun _ => True) (okp := fun _ => True) rfl (fun _ hk => hk) trivial (of_decide_eq_true pbb4_0) (Nat.le_trans (Nat.mul_le_mul_right _ (of_decide_eq_true pbb4_0 : (l1.length : Int).toNat ≤ 35184372088832)) (by omega)) (Below.refl _ _) (Nat.le_refl _) ?_; intro v107 w11 ho12 hb hg_ hnew_; clear hg_ hnew_; (first | rw [← Ny106.out] at ho12 | (simp only [Int.reduceToNat] at ho12; rw [← Ny106.out] at ho12)); have n0_ := Aside0.mk (Kd.R_elder' prr2_0 (Kd.R_base ho12) hb); have n1_ := Aside0.mk (Kd.R_lower (Kd.R_new' ho12 (Kd.R_lt prr2_0)) (below_size pbb2_2)); have n2_ := Aside0.mk (below_step pbb2_2 hb); clear HO105; clear HB; have HO105 := n0_; have HO108 := n1_; have HB := n2_; clear n0_ n1_ n2_; clear hb ho12))
      repeat (go_quiet (first | ((with_reducible refine gate_dst (N := 36) rfl ?_); refine Kd.R_make (Kd.int .i64) _ 3 rfl (N := 36) rfl 24 _ _ rfl (l1.length : Int) rfl rfl Try.underlying24 (.int .i64 0) 8 info3 rfl (by decide) (by omega) 0 (ok := fun _ => True) (okp := fun _ => True) rfl (fun _ hk => hk) trivial (of_decide_eq_true pbb4_0) (Nat.le_trans (Nat.mul_le_mul_right _ (of_decide_eq_true pbb4_0 : (l1.length : Int).toNat ≤ 35184372088832)) (by omega)) (Below.refl _ _) (Nat.le_refl _) ?_; intro v104 w9 ho10 hb hg_ hnew_; clear hg_ hnew_; (first | rw [← Ny103.out] at ho10 | (simp only [Int.reduceToNat] at ho10; rw [← Ny103.out] at ho10)); have n0_ := Aside0.mk (Kd.R_lower ho10 (below_size pbb2_2)); have n1_ := Aside0.mk (below_step pbb2_2 hb); clear HB; have HO105 := n0_; have HB := n1_; clear n0_ n1_; clear hb ho10) | ((with_reducible refine gate_dst (N := 39) rfl ?_); refine Kd.R_make (Kd.int .i64) _ 3 rfl (N := 39) rfl 24 _ _ rfl (l1.length : Int) rfl rfl Try.underlying24 (.int .i64 0) 8 info3 rfl (by decide) (by omega) 0 (ok := fun _ => True) (okp := fun _ => True) rfl (fun _ hk => hk) trivial (of_decide_eq_true pbb4_0) (Nat.le_trans (Nat.mul_le_mul_right _ (of_decide_eq_true pbb4_0 : (l1.length : Int).toNat ≤ 35184372088832)) (by omega)) (Below.refl _ _) (Nat.le_refl _) ?_; intro v107 w11 ho12 hb hg_ hnew_; clear hg_ hnew_; (first | rw [← Ny106.out] at ho12 | (simp only [Int.reduceToNat] at ho12; rw [← Ny106.out] at ho12)); have n0_ := Aside0.mk (Kd.R_elder' prr2_0 (Kd.R_base ho12) hb); have n1_ := Aside0.mk (Kd.R_lower (Kd.R_new' ho12 (Kd.R_lt prr2_0)) (below_size pbb2_2)); have n2_ := Aside0.mk (below_step pbb2_2 hb); clear HO105; clear HB; have HO105 := n0_; have HO108 := n1_; have HB := n2_; clear n0_ n1_ n2_; clear hb ho12)); try go_wp2_with (first | ((with_reducible refine gate_dst (N := 36) rfl ?_); refine Kd.R_make (Kd.int .i64) _ 3 rfl (N := 36) rfl 24 _ _ rfl (l1.length : Int) rfl rfl Try.underlying24 (.int .i64 0) 8 info3 rfl (by decide) (by omega) 0 (ok := fun _ => True) (okp := fun _ => True) rfl (fun _ hk => hk) trivial (of_decide_eq_true pbb4_0) (Nat.le_trans (Nat.mul_le_mul_right _ (of_decide_eq_true pbb4_0 : (l1.length : Int).toNat ≤ 35184372088832)) (by omega)) (Below.refl _ _) (Nat.le_refl _) ?_; intro v104 w9 ho10 hb hg_ hnew_; clear hg_ hnew_; (first | rw [← Ny103.out] at ho10 | (simp only [Int.reduceToNat] at ho10; rw [← Ny103.out] at ho10)); have n0_ := Aside0.mk (Kd.R_lower ho10 (below_size pbb2_2)); have n1_ := Aside0.mk (below_step pbb2_2 hb); clear HB; have HO105 := n0_; have HB := n1_; clear n0_ n1_; clear hb ho10) | ((with_reducible refine gate_dst (N := 39) rfl ?_); refine Kd.R_make (Kd.int .i64) _ 3 rfl (N := 39) rfl 24 _ _ rfl (l1.length : Int) rfl rfl Try.underlying24 (.int .i64 0) 8 info3 rfl (by decide) (by omega) 0 (ok := fun _ => True) (okp := fun _ => True) rfl (fun _ hk => hk) trivial (of_decide_eq_true pbb4_0) (Nat.le_trans (Nat.mul_le_mul_right _ (of_decide_eq_true pbb4_0 : (l1.length : Int).toNat ≤ 35184372088832)) (by omega)) (Below.refl _ _) (Nat.le_refl _) ?_; intro v107 w11 ho12 hb hg_ hnew_; clear hg_ hnew_; (first | rw [← Ny106.out] at ho12 | (simp only [Int.reduceToNat] at ho12; rw [← Ny106.out] at ho12)); have n0_ := Aside0.mk (Kd.R_elder' prr2_0 (Kd.R_base ho12) hb); have n1_ := Aside0.mk (Kd.R_lower (Kd.R_new' ho12 (Kd.R_lt prr2_0)) (below_size pbb2_2)); have n2_ := Aside0.mk (below_step pbb2_2 hb); clear HO105; clear HB; have HO105 := n0_; have HO108 := n1_; have HB := n2_; clear n0_ n1_ n2_; clear hb ho12)))
      go_loopg [11, 12] kj4 (fun kq v11 v12 w' => ∃ (x9_2 : List Int) (x10_2 : List Int) (x11_2 : Int) (x12_2 : Int), v11 = .int .i64 x11_2 ∧ v12 = .int .i64 x12_2 ∧ Aside0 (accountingref08_Shares.l0 kq a0 l1 t101 x8_4 x9_2 x10_2 x11_2 x12_2 = some (r1, r2)) ∧ Aside0 (kq ≤ kj4) ∧ Aside0 (Kd.R (Kd.int .i64) 3 w' w.heap.size (fun k_ => some k_ ≠ (v107 : Value).ownBlock) v104 x9_2) ∧ Aside0 (Kd.R (Kd.int .i64) 3 w' w.heap.size (fun k_ => some k_ ≠ (v104 : Value).ownBlock) v107 x10_2) ∧ Aside0 (Below w.heap.size w w'))
      case atStart => exact ⟨(y103), (y106), (x8_4), (0), pbb2_0, pbb2_0, H', ⟨Nat.le_refl _⟩, ⟨by (with_reducible repeat (first | apply Kd.R_alloc | apply Kd.R_drewN | apply Kd.R_drew)); exact Kd.R_mono HO105.out (fun _ hk => hk.2)⟩, ⟨by (with_reducible repeat (first | apply Kd.R_alloc | apply Kd.R_drewN | apply Kd.R_drew)); exact Kd.R_mono HO108.out (fun _ hk => hk.2)⟩, ⟨pbb2_2⟩⟩
      case round =>
       clear H'; (try clear c1); (try clear c2); (try clear p2); (try clear c4); (try clear c4b0); (try clear c4b1); (try clear c6); (try clear c6b0); (try clear p6); (try clear c7); (try clear c7b0); (try clear c7b1); (try clear c8); (try clear c8b0); (try clear c8b1); (try clear p2); (try clear p6); obtain ⟨x9_2, x10_2, x11_2, x12_2, rfl, rfl, HA, HK2, HO_9, HO_10, HB⟩ := hrel
       cases gk with
       | zero => exact absurd HA.out (by simp [accountingref08_Shares.l0])
       | succ k2 =>
        have H := HA.out; clear HA; simp only [accountingref08_Shares.l0] at H
        by_cases c13 : x12_2 < (l1.length : Int)
        ·rw [if_pos c13] at H; have c13b0 : decide (x12_2 < (l1.length : Int)) = true := decide_eq_true c13; clear c13
         by_cases c14 : 0 ≤ x12_2
         ·rw [if_pos c14] at H; have c14b0 : decide (0 ≤ x12_2) = true := decide_eq_true c14; clear c14; replace H := Option.bind_eq_some_iff.mp H; obtain ⟨⟨t110, t111⟩, A150, H⟩ := H; replace H : ((accountingref02_Mod.f k2 x8_4 (rd l1 x12_2) t101).bind fun bt113 => (if x12_2 < (x9_2.length : Int) then ((some (x9_2.set (x12_2 : Int).toNat t110 : List Int)).bind fun y115 => (if x12_2 < (x10_2.length : Int) then (accountingref08_Shares.l0 k2 a0 l1 t101 x8_4 y115 (x10_2.set (x12_2 : Int).toNat bt113.1) (wrap64 (x11_2 - (rd y115 x12_2))) (wrap64 (x12_2 + 1))) else (none))) else (none))) = some (r1, r2) := H; have A15 := Aside0.mk A150; clear A150; replace H := Option.bind_eq_some_iff.mp H; obtain ⟨⟨t113, t114⟩, A160, H⟩ := H; replace H : (if x12_2 < (x9_2.length : Int) then ((some (x9_2.set (x12_2 : Int).toNat t110 : List Int)).bind fun y115 => (if x12_2 < (x10_2.length : Int) then (accountingref08_Shares.l0 k2 a0 l1 t101 x8_4 y115 (x10_2.set (x12_2 : Int).toNat t113) (wrap64 (x11_2 - (rd y115 x12_2))) (wrap64 (x12_2 + 1))) else (none))) else (none)) = some (r1, r2) := H; have A16 := Aside0.mk A160; clear A160
          by_cases c17 : x12_2 < (x9_2.length : Int)
          ·rw [if_pos c17] at H; have c17b0 : decide (x12_2 < (x9_2.length : Int)) = true := decide_eq_true c17; clear c17; obtain ⟨y115, hy115⟩ : ∃ y_ : List Int, y_ = (x9_2.set (x12_2 : Int).toNat t110) := ⟨_, rfl⟩; replace H : (if x12_2 < (x10_2.length : Int) then (accountingref08_Shares.l0 k2 a0 l1 t101 x8_4 y115 (x10_2.set (x12_2 : Int).toNat t113) (wrap64 (x11_2 - (rd y115 x12_2))) (wrap64 (x12_2 + 1))) else (none)) = some (r1, r2) := by first | (rw [hy115]; with_reducible exact H) | (have H2_ := (Option.bind_some _ _).symm.trans H; rw [hy115]; with_reducible exact H2_) | (have H2_ := (Option.bind_some _ _).symm.trans H; with_reducible exact H2_) | with_reducible exact H | (rw [hy115]; exact H) | exact H
           have Ny115 := Aside0.mk hy115; clear hy115
           by_cases c19 : x12_2 < (x10_2.length : Int)
           ·rw [if_pos c19] at H; have c19b0 : decide (x12_2 < (x10_2.length : Int)) = true := decide_eq_true c19; clear c19; obtain ⟨y116, hy116⟩ : ∃ y_ : List Int, y_ = (x10_2.set (x12_2 : Int).toNat t113) := ⟨_, rfl⟩; replace H : (accountingref08_Shares.l0 k2 a0 l1 t101 x8_4 y115 y116 (wrap64 (x11_2 - (rd y115 x12_2))) (wrap64 (x12_2 + 1))) = some (r1, r2) := by first | (rw [hy116]; with_reducible exact H) | (have H2_ := (Option.bind_some _ _).symm.trans H; rw [hy116]; with_reducible exact H2_) | (have H2_ := (Option.bind_some _ _).symm.trans H; with_reducible exact H2_) | with_reducible exact H | (rw [hy116]; exact H) | exact H
            have Ny116 := Aside0.mk hy116; clear hy116; have H' := Aside0.mk H; clear H; have p109 : 0 ≤ (x12_2 : Int) := of_decide_eq_true pbb4_0; have q109 : x12_2 < (l1.length : Int) := of_decide_eq_true pbb4_0; obtain ⟨ad109, e109, hx109_0⟩ := Kd.at_int HR1.out x12_2 p109 q109
            cases e109
            replace hx109_0 := (HB.out.cell (World.block_lt_of_cell? w _ hx109_0)).trans hx109_0; replace p109 := eq_true p109; replace q109 := eq_true q109
            go_wp2_with (first | (go_at_call 39; (with_reducible refine (accountingref02_MulDiv.calls k2 x8_4 (rd l1 x12_2) t101 1 t110 t111 _ A15.out).mono ?_); rintro e w' ⟨rfl, ⟨nd, rfl⟩⟩; (try first | exact ⟨rfl, _, World.drewN_drewN _ _ _⟩ | exact ⟨rfl, _, Eq.trans (World.drewN_drewN _ _ _) (congrArg (World.drewN _) (Nat.add_assoc _ _ _))⟩); have p112 : 0 ≤ (x12_2 : Int) := of_decide_eq_true pbb4_0; have q112 : x12_2 < (l1.length : Int) := of_decide_eq_true pbb4_0; obtain ⟨ad112, e112, hx112_0⟩ := Kd.at_int HR1.out x12_2 p112 q112; obtain rfl : ad109 = ad112 := (by injection e112); replace hx112_0 := (HB.out.cell (World.block_lt_of_cell? w _ hx112_0)).trans hx112_0; replace p112 := eq_true p112; replace q112 := eq_true q112) | (go_at_call 42; (with_reducible refine (accountingref02_Mod.calls k2 x8_4 (rd l1 x12_2) t101 t113 t114 _ A16.out).mono ?_); rintro e w' ⟨rfl, ⟨nd, rfl⟩⟩; (try first | exact ⟨rfl, _, World.drewN_drewN _ _ _⟩ | exact ⟨rfl, _, Eq.trans (World.drewN_drewN _ _ _) (congrArg (World.drewN _) (Nat.add_assoc _ _ _))⟩); have p18 : 0 ≤ (x12_2 : Int) := of_decide_eq_true pbb4_0; have q18 : (x12_2 : Int) < ((x9_2.length : Int) : Int) := of_decide_eq_true pbb4_0; obtain ⟨go18, co18, eo18, gb18, gl18, cl18, HG18⟩ := Kd.R_form HO_9.out (by omega); (first | cases eo18 | (injection eo18 with ea_ en_ ec_; (first | subst ea_ | (injection ea_ with ea_; subst ea_)); subst ec_; clear en_)); have GB18 := Aside0.mk gb18; have GG18 := Aside0.mk HG18; clear gb18 gl18 HG18; obtain ⟨hx18_0, hf18_0⟩ := Kd.R_celln 0 HO_9.out (x12_2 : Int) p18 q18; replace p18 := eq_true p18; replace q18 := eq_true q18; obtain ⟨hy21_, hz21_⟩ := Kd.R_celln 0 HO_9.out (x12_2 : Int) (of_decide_eq_true pbb4_0) (of_decide_eq_true pbb4_0); have HP21 := Kd.R_putg HO_9.out (x12_2 : Int) t110) | ((with_reducible refine gate_store (t := 3) (p := 70) rfl ?_); (try (rw [drewN_self wr]; generalize hq_ : World.drewN wr _ = wr; have n0_ := Aside0.mk (Kd.R_at hq_ HO_9.out); have n1_ := Aside0.mk (Kd.R_at hq_ HO_10.out); have n2_ := Aside0.mk (below_at hq_ HB.out); clear hq_ HO_9 HO_10 HB; have HO_9 := n0_; have HO_10 := n1_; have HB := n2_; clear n0_ n1_ n2_; (try (obtain ⟨hy21_, hz21_⟩ := Kd.R_celln 0 HO_9.out (x12_2 : Int) (of_decide_eq_true pbb4_0) (of_decide_eq_true pbb4_0))); (try (have HP21 := Kd.R_putg HO_9.out (x12_2 : Int) t110)))); refine store_event (t := 3) (p := 70) (v := ?vo_w22) (w1 := (wr.setCell ⟨go18, (x12_2 : Int).toNat, none⟩ (.int .i64 t110))) ?hg ?ho ?hn ?hr ?_; (case ho => rfl); (case hg => rfl); (case hn => rfl); (case hr => first | (go_simp; done) | (go_simp; rfl)); intro w22 hw; have hg : wr.grownBy w22 (some go18) := (by rw [hw]; exact HP21.2); have hp_ : Kd.R (Kd.int .i64) 3 w22 w.heap.size (fun k_ => some k_ ≠ (v107 : Value).ownBlock) (.slice (some ⟨go18, 0, none⟩) x9_2.length co18) y115 := (by rw [hw, Ny115.out]; exact HP21.1); clear HP21; have n0_ := Aside0.mk (hp_); have n1_ := Aside0.mk (Kd.R_after (v := (.slice (some ⟨go18, 0, none⟩) x9_2.length co18)) (v1 := (.slice (some ⟨go18, 0, none⟩) x9_2.length co18)) (ok := (fun _ => True)) prr2_1 hg (.inl rfl)); have n2_ := Aside0.mk ((by rw [hw]; exact below_set (HB.out) GB18.out : Below w.heap.size w w22)); clear HO_9; clear HO_10; clear HB; have HO_9 := n0_; have HO_10 := n1_; have HB := n2_; clear n0_ n1_ n2_; clear hg hw hp_; have p20 : 0 ≤ (x12_2 : Int) := of_decide_eq_true pbb4_0; have q20 : (x12_2 : Int) < ((x10_2.length : Int) : Int) := of_decide_eq_true pbb4_0; obtain ⟨go20, co20, eo20, gb20, gl20, cl20, HG20⟩ := Kd.R_form HO_10.out (by omega); (first | cases eo20 | (injection eo20 with ea_ en_ ec_; (first | subst ea_ | (injection ea_ with ea_; subst ea_)); subst ec_; clear en_)); have GB20 := Aside0.mk gb20; have GG20 := Aside0.mk HG20; clear gb20 gl20 HG20; obtain ⟨hx20_0, hf20_0⟩ := Kd.R_celln 0 HO_10.out (x12_2 : Int) p20 q20; replace p20 := eq_true p20; replace q20 := eq_true q20; have n_ := Aside0.mk (Kd.R_mono (ok' := (fun k_ => some k_ ≠ (.slice (some ⟨go18, 0, none⟩) x9_2.length co18 : Value).ownBlock)) HO_10.out (fun k_ hk => hk.2)); clear HO_10; have HO_10 := n_; clear n_; obtain ⟨hy23_, hz23_⟩ := Kd.R_celln 0 HO_10.out (x12_2 : Int) (of_decide_eq_true pbb4_0) (of_decide_eq_true pbb4_0); have HP23 := Kd.R_putg HO_10.out (x12_2 : Int) t113) | ((with_reducible refine gate_store (t := 3) (p := 74) rfl ?_); (try (rw [drewN_self w22]; generalize hq_ : World.drewN w22 _ = w22; have n0_ := Aside0.mk (Kd.R_at hq_ HO_9.out); have n1_ := Aside0.mk (Kd.R_at hq_ HO_10.out); have n2_ := Aside0.mk (below_at hq_ HB.out); clear hq_ HO_9 HO_10 HB; have HO_9 := n0_; have HO_10 := n1_; have HB := n2_; clear n0_ n1_ n2_; (try (have n_ := Aside0.mk (Kd.R_mono (ok' := (fun k_ => some k_ ≠ (.slice (some ⟨go18, 0, none⟩) x9_2.length co18 : Value).ownBlock)) HO_10.out (fun k_ hk => hk.2)); clear HO_10; have HO_10 := n_; clear n_)); (try (obtain ⟨hy23_, hz23_⟩ := Kd.R_celln 0 HO_10.out (x12_2 : Int) (of_decide_eq_true pbb4_0) (of_decide_eq_true pbb4_0))); (try (have HP23 := Kd.R_putg HO_10.out (x12_2 : Int) t113)))); refine store_event (t := 3) (p := 74) (v := ?vo_w24) (w1 := (w22.setCell ⟨go20, (x12_2 : Int).toNat, none⟩ (.int .i64 t113))) ?hg ?ho ?hn ?hr ?_; (case ho => rfl); (case hg => rfl); (case hn => rfl); (case hr => first | (go_simp; done) | (go_simp; rfl)); intro w24 hw; have hg : w22.grownBy w24 (some go20) := (by rw [hw]; exact HP23.2); have hp_ : Kd.R (Kd.int .i64) 3 w24 w.heap.size (fun k_ => some k_ ≠ (.slice (some ⟨go18, 0, none⟩) x9_2.length co18 : Value).ownBlock) (.slice (some ⟨go20, 0, none⟩) x10_2.length co20) y116 := (by rw [hw, Ny116.out]; exact HP23.1); clear HP23; have n0_ := Aside0.mk (Kd.R_after (v := (.slice (some ⟨go20, 0, none⟩) x10_2.length co20)) (v1 := (.slice (some ⟨go20, 0, none⟩) x10_2.length co20)) (ok := (fun _ => True)) prr2_2 hg (.inl rfl)); have n1_ := Aside0.mk (hp_); have n2_ := Aside0.mk ((by rw [hw]; exact below_set (HB.out) GB20.out : Below w.heap.size w w24)); clear HO_9; clear HO_10; clear HB; have HO_9 := n0_; have HO_10 := n1_; have HB := n2_; clear n0_ n1_ n2_; clear hg hw hp_; have p117 : 0 ≤ (x12_2 : Int) := of_decide_eq_true pbb4_0; have q117 : x12_2 < (y115.length : Int) := (by have h_ : (x12_2 : Int) < ((x9_2.length : Int) : Int) := of_decide_eq_true pbb4_0; first | (have e_ := (Kd.R_reads' HO_9.out).1; omega) | simpa only [Ny115.out, List.length_set] using h_); have ql117 : ((x12_2 : Int) < ((x9_2.length : Int) : Int)) = True := eq_true (of_decide_eq_true pbb4_0); obtain ⟨ad117, e117, hx117_0⟩ := Kd.at_int (Kd.R_reads' HO_9.out).2.2 x12_2 p117 q117; obtain rfl : (⟨go18, 0, none⟩ : Addr) = ad117 := (by injection e117); (first | simp only [add_plain] at hx117_0 | simp only [add_at] at hx117_0 | simp only [Addr.add, Nat.zero_add] at hx117_0 | skip); replace p117 := eq_true p117; replace q117 := eq_true q117))
            repeat (go_quiet (first | (go_at_call 39; (with_reducible refine (accountingref02_MulDiv.calls k2 x8_4 (rd l1 x12_2) t101 1 t110 t111 _ A15.out).mono ?_); rintro e w' ⟨rfl, ⟨nd, rfl⟩⟩; (try first | exact ⟨rfl, _, World.drewN_drewN _ _ _⟩ | exact ⟨rfl, _, Eq.trans (World.drewN_drewN _ _ _) (congrArg (World.drewN _) (Nat.add_assoc _ _ _))⟩); have p112 : 0 ≤ (x12_2 : Int) := of_decide_eq_true pbb4_0; have q112 : x12_2 < (l1.length : Int) := of_decide_eq_true pbb4_0; obtain ⟨ad112, e112, hx112_0⟩ := Kd.at_int HR1.out x12_2 p112 q112; obtain rfl : ad109 = ad112 := (by injection e112); replace hx112_0 := (HB.out.cell (World.block_lt_of_cell? w _ hx112_0)).trans hx112_0; replace p112 := eq_true p112; replace q112 := eq_true q112) | (go_at_call 42; (with_reducible refine (accountingref02_Mod.calls k2 x8_4 (rd l1 x12_2) t101 t113 t114 _ A16.out).mono ?_); rintro e w' ⟨rfl, ⟨nd, rfl⟩⟩; (try first | exact ⟨rfl, _, World.drewN_drewN _ _ _⟩ | exact ⟨rfl, _, Eq.trans (World.drewN_drewN _ _ _) (congrArg (World.drewN _) (Nat.add_assoc _ _ _))⟩); have p18 : 0 ≤ (x12_2 : Int) := of_decide_eq_true pbb4_0; have q18 : (x12_2 : Int) < ((x9_2.length : Int) : Int) := of_decide_eq_true pbb4_0; obtain ⟨go18, co18, eo18, gb18, gl18, cl18, HG18⟩ := Kd.R_form HO_9.out (by omega); (first | cases eo18 | (injection eo18 with ea_ en_ ec_; (first | subst ea_ | (injection ea_ with ea_; subst ea_)); subst ec_; clear en_)); have GB18 := Aside0.mk gb18; have GG18 := Aside0.mk HG18; clear gb18 gl18 HG18; obtain ⟨hx18_0, hf18_0⟩ := Kd.R_celln 0 HO_9.out (x12_2 : Int) p18 q18; replace p18 := eq_true p18; replace q18 := eq_true q18; obtain ⟨hy21_, hz21_⟩ := Kd.R_celln 0 HO_9.out (x12_2 : Int) (of_decide_eq_true pbb4_0) (of_decide_eq_true pbb4_0); have HP21 := Kd.R_putg HO_9.out (x12_2 : Int) t110) | ((with_reducible refine gate_store (t := 3) (p := 70) rfl ?_); (try (rw [drewN_self wr]; generalize hq_ : World.drewN wr _ = wr; have n0_ := Aside0.mk (Kd.R_at hq_ HO_9.out); have n1_ := Aside0.mk (Kd.R_at hq_ HO_10.out); have n2_ := Aside0.mk (below_at hq_ HB.out); clear hq_ HO_9 HO_10 HB; have HO_9 := n0_; have HO_10 := n1_; have HB := n2_; clear n0_ n1_ n2_; (try (obtain ⟨hy21_, hz21_⟩ := Kd.R_celln 0 HO_9.out (x12_2 : Int) (of_decide_eq_true pbb4_0) (of_decide_eq_true pbb4_0))); (try (have HP21 := Kd.R_putg HO_9.out (x12_2 : Int) t110)))); refine store_event (t := 3) (p := 70) (v := ?vo_w22) (w1 := (wr.setCell ⟨go18, (x12_2 : Int).toNat, none⟩ (.int .i64 t110))) ?hg ?ho ?hn ?hr ?_; (case ho => rfl); (case hg => rfl); (case hn => rfl); (case hr => first | (go_simp; done) | (go_simp; rfl)); intro w22 hw; have hg : wr.grownBy w22 (some go18) := (by rw [hw]; exact HP21.2); have hp_ : Kd.R (Kd.int .i64) 3 w22 w.heap.size (fun k_ => some k_ ≠ (v107 : Value).ownBlock) (.slice (some ⟨go18, 0, none⟩) x9_2.length co18) y115 := (by rw [hw, Ny115.out]; exact HP21.1); clear HP21; have n0_ := Aside0.mk (hp_); have n1_ := Aside0.mk (Kd.R_after (v := (.slice (some ⟨go18, 0, none⟩) x9_2.length co18)) (v1 := (.slice (some ⟨go18, 0, none⟩) x9_2.length co18)) (ok := (fun _ => True)) prr2_1 hg (.inl rfl)); have n2_ := Aside0.mk ((by rw [hw]; exact below_set (HB.out) GB18.out : Below w.heap.size w w22)); clear HO_9; clear HO_10; clear HB; have HO_9 := n0_; have HO_10 := n1_; have HB := n2_; clear n0_ n1_ n2_; clear hg hw hp_; have p20 : 0 ≤ (x12_2 : Int) := of_decide_eq_true pbb4_0; have q20 : (x12_2 : Int) < ((x10_2.length : Int) : Int) := of_decide_eq_true pbb4_0; obtain ⟨go20, co20, eo20, gb20, gl20, cl20, HG20⟩ := Kd.R_form HO_10.out (by omega); (first | cases eo20 | (injection eo20 with ea_ en_ ec_; (first | subst ea_ | (injection ea_ with ea_; subst ea_)); subst ec_; clear en_)); have GB20 := Aside0.mk gb20; have GG20 := Aside0.mk HG20; clear gb20 gl20 HG20; obtain ⟨hx20_0, hf20_0⟩ := Kd.R_celln 0 HO_10.out (x12_2 : Int) p20 q20; replace p20 := eq_true p20; replace q20 := eq_true q20; have n_ := Aside0.mk (Kd.R_mono (ok' := (fun k_ => some k_ ≠ (.slice (some ⟨go18, 0, none⟩) x9_2.length co18 : Value).ownBlock)) HO_10.out (fun k_ hk => hk.2)); clear HO_10; have HO_10 := n_; clear n_; obtain ⟨hy23_, hz23_⟩ := Kd.R_celln 0 HO_10.out (x12_2 : Int) (of_decide_eq_true pbb4_0) (of_decide_eq_true pbb4_0); have HP23 := Kd.R_putg HO_10.out (x12_2 : Int) t113) | ((with_reducible refine gate_store (t := 3) (p := 74) rfl ?_); (try (rw [drewN_self w22]; generalize hq_ : World.drewN w22 _ = w22; have n0_ := Aside0.mk (Kd.R_at hq_ HO_9.out); have n1_ := Aside0.mk (Kd.R_at hq_ HO_10.out); have n2_ := Aside0.mk (below_at hq_ HB.out); clear hq_ HO_9 HO_10 HB; have HO_9 := n0_; have HO_10 := n1_; have HB := n2_; clear n0_ n1_ n2_; (try (have n_ := Aside0.mk (Kd.R_mono (ok' := (fun k_ => some k_ ≠ (.slice (some ⟨go18, 0, none⟩) x9_2.length co18 : Value).ownBlock)) HO_10.out (fun k_ hk => hk.2)); clear HO_10; have HO_10 := n_; clear n_)); (try (obtain ⟨hy23_, hz23_⟩ := Kd.R_celln 0 HO_10.out (x12_2 : Int) (of_decide_eq_true pbb4_0) (of_decide_eq_true pbb4_0))); (try (have HP23 := Kd.R_putg HO_10.out (x12_2 : Int) t113)))); refine store_event (t := 3) (p := 74) (v := ?vo_w24) (w1 := (w22.setCell ⟨go20, (x12_2 : Int).toNat, none⟩ (.int .i64 t113))) ?hg ?ho ?hn ?hr ?_; (case ho => rfl); (case hg => rfl); (case hn => rfl); (case hr => first | (go_simp; done) | (go_simp; rfl)); intro w24 hw; have hg : w22.grownBy w24 (some go20) := (by rw [hw]; exact HP23.2); have hp_ : Kd.R (Kd.int .i64) 3 w24 w.heap.size (fun k_ => some k_ ≠ (.slice (some ⟨go18, 0, none⟩) x9_2.length co18 : Value).ownBlock) (.slice (some ⟨go20, 0, none⟩) x10_2.length co20) y116 := (by rw [hw, Ny116.out]; exact HP23.1); clear HP23; have n0_ := Aside0.mk (Kd.R_after (v := (.slice (some ⟨go20, 0, none⟩) x10_2.length co20)) (v1 := (.slice (some ⟨go20, 0, none⟩) x10_2.length co20)) (ok := (fun _ => True)) prr2_2 hg (.inl rfl)); have n1_ := Aside0.mk (hp_); have n2_ := Aside0.mk ((by rw [hw]; exact below_set (HB.out) GB20.out : Below w.heap.size w w24)); clear HO_9; clear HO_10; clear HB; have HO_9 := n0_; have HO_10 := n1_; have HB := n2_; clear n0_ n1_ n2_; clear hg hw hp_; have p117 : 0 ≤ (x12_2 : Int) := of_decide_eq_true pbb4_0; have q117 : x12_2 < (y115.length : Int) := (by have h_ : (x12_2 : Int) < ((x9_2.length : Int) : Int) := of_decide_eq_true pbb4_0; first | (have e_ := (Kd.R_reads' HO_9.out).1; omega) | simpa only [Ny115.out, List.length_set] using h_); have ql117 : ((x12_2 : Int) < ((x9_2.length : Int) : Int)) = True := eq_true (of_decide_eq_true pbb4_0); obtain ⟨ad117, e117, hx117_0⟩ := Kd.at_int (Kd.R_reads' HO_9.out).2.2 x12_2 p117 q117; obtain rfl : (⟨go18, 0, none⟩ : Addr) = ad117 := (by injection e117); (first | simp only [add_plain] at hx117_0 | simp only [add_at] at hx117_0 | simp only [Addr.add, Nat.zero_add] at hx117_0 | skip); replace p117 := eq_true p117; replace q117 := eq_true q117)); try go_wp2_with (first | (go_at_call 39; (with_reducible refine (accountingref02_MulDiv.calls k2 x8_4 (rd l1 x12_2) t101 1 t110 t111 _ A15.out).mono ?_); rintro e w' ⟨rfl, ⟨nd, rfl⟩⟩; (try first | exact ⟨rfl, _, World.drewN_drewN _ _ _⟩ | exact ⟨rfl, _, Eq.trans (World.drewN_drewN _ _ _) (congrArg (World.drewN _) (Nat.add_assoc _ _ _))⟩); have p112 : 0 ≤ (x12_2 : Int) := of_decide_eq_true pbb4_0; have q112 : x12_2 < (l1.length : Int) := of_decide_eq_true pbb4_0; obtain ⟨ad112, e112, hx112_0⟩ := Kd.at_int HR1.out x12_2 p112 q112; obtain rfl : ad109 = ad112 := (by injection e112); replace hx112_0 := (HB.out.cell (World.block_lt_of_cell? w _ hx112_0)).trans hx112_0; replace p112 := eq_true p112; replace q112 := eq_true q112) | (go_at_call 42; (with_reducible refine (accountingref02_Mod.calls k2 x8_4 (rd l1 x12_2) t101 t113 t114 _ A16.out).mono ?_); rintro e w' ⟨rfl, ⟨nd, rfl⟩⟩; (try first | exact ⟨rfl, _, World.drewN_drewN _ _ _⟩ | exact ⟨rfl, _, Eq.trans (World.drewN_drewN _ _ _) (congrArg (World.drewN _) (Nat.add_assoc _ _ _))⟩); have p18 : 0 ≤ (x12_2 : Int) := of_decide_eq_true pbb4_0; have q18 : (x12_2 : Int) < ((x9_2.length : Int) : Int) := of_decide_eq_true pbb4_0; obtain ⟨go18, co18, eo18, gb18, gl18, cl18, HG18⟩ := Kd.R_form HO_9.out (by omega); (first | cases eo18 | (injection eo18 with ea_ en_ ec_; (first | subst ea_ | (injection ea_ with ea_; subst ea_)); subst ec_; clear en_)); have GB18 := Aside0.mk gb18; have GG18 := Aside0.mk HG18; clear gb18 gl18 HG18; obtain ⟨hx18_0, hf18_0⟩ := Kd.R_celln 0 HO_9.out (x12_2 : Int) p18 q18; replace p18 := eq_true p18; replace q18 := eq_true q18; obtain ⟨hy21_, hz21_⟩ := Kd.R_celln 0 HO_9.out (x12_2 : Int) (of_decide_eq_true pbb4_0) (of_decide_eq_true pbb4_0); have HP21 := Kd.R_putg HO_9.out (x12_2 : Int) t110) | ((with_reducible refine gate_store (t := 3) (p := 70) rfl ?_); (try (rw [drewN_self wr]; generalize hq_ : World.drewN wr _ = wr; have n0_ := Aside0.mk (Kd.R_at hq_ HO_9.out); have n1_ := Aside0.mk (Kd.R_at hq_ HO_10.out); have n2_ := Aside0.mk (below_at hq_ HB.out); clear hq_ HO_9 HO_10 HB; have HO_9 := n0_; have HO_10 := n1_; have HB := n2_; clear n0_ n1_ n2_; (try (obtain ⟨hy21_, hz21_⟩ := Kd.R_celln 0 HO_9.out (x12_2 : Int) (of_decide_eq_true pbb4_0) (of_decide_eq_true pbb4_0))); (try (have HP21 := Kd.R_putg HO_9.out (x12_2 : Int) t110)))); refine store_event (t := 3) (p := 70) (v := ?vo_w22) (w1 := (wr.setCell ⟨go18, (x12_2 : Int).toNat, none⟩ (.int .i64 t110))) ?hg ?ho ?hn ?hr ?_; (case ho => rfl); (case hg => rfl); (case hn => rfl); (case hr => first | (go_simp; done) | (go_simp; rfl)); intro w22 hw; have hg : wr.grownBy w22 (some go18) := (by rw [hw]; exact HP21.2); have hp_ : Kd.R (Kd.int .i64) 3 w22 w.heap.size (fun k_ => some k_ ≠ (v107 : Value).ownBlock) (.slice (some ⟨go18, 0, none⟩) x9_2.length co18) y115 := (by rw [hw, Ny115.out]; exact HP21.1); clear HP21; have n0_ := Aside0.mk (hp_); have n1_ := Aside0.mk (Kd.R_after (v := (.slice (some ⟨go18, 0, none⟩) x9_2.length co18)) (v1 := (.slice (some ⟨go18, 0, none⟩) x9_2.length co18)) (ok := (fun _ => True)) prr2_1 hg (.inl rfl)); have n2_ := Aside0.mk ((by rw [hw]; exact below_set (HB.out) GB18.out : Below w.heap.size w w22)); clear HO_9; clear HO_10; clear HB; have HO_9 := n0_; have HO_10 := n1_; have HB := n2_; clear n0_ n1_ n2_; clear hg hw hp_; have p20 : 0 ≤ (x12_2 : Int) := of_decide_eq_true pbb4_0; have q20 : (x12_2 : Int) < ((x10_2.length : Int) : Int) := of_decide_eq_true pbb4_0; obtain ⟨go20, co20, eo20, gb20, gl20, cl20, HG20⟩ := Kd.R_form HO_10.out (by omega); (first | cases eo20 | (injection eo20 with ea_ en_ ec_; (first | subst ea_ | (injection ea_ with ea_; subst ea_)); subst ec_; clear en_)); have GB20 := Aside0.mk gb20; have GG20 := Aside0.mk HG20; clear gb20 gl20 HG20; obtain ⟨hx20_0, hf20_0⟩ := Kd.R_celln 0 HO_10.out (x12_2 : Int) p20 q20; replace p20 := eq_true p20; replace q20 := eq_true q20; have n_ := Aside0.mk (Kd.R_mono (ok' := (fun k_ => some k_ ≠ (.slice (some ⟨go18, 0, none⟩) x9_2.length co18 : Value).ownBlock)) HO_10.out (fun k_ hk => hk.2)); clear HO_10; have HO_10 := n_; clear n_; obtain ⟨hy23_, hz23_⟩ := Kd.R_celln 0 HO_10.out (x12_2 : Int) (of_decide_eq_true pbb4_0) (of_decide_eq_true pbb4_0); have HP23 := Kd.R_putg HO_10.out (x12_2 : Int) t113) | ((with_reducible refine gate_store (t := 3) (p := 74) rfl ?_); (try (rw [drewN_self w22]; generalize hq_ : World.drewN w22 _ = w22; have n0_ := Aside0.mk (Kd.R_at hq_ HO_9.out); have n1_ := Aside0.mk (Kd.R_at hq_ HO_10.out); have n2_ := Aside0.mk (below_at hq_ HB.out); clear hq_ HO_9 HO_10 HB; have HO_9 := n0_; have HO_10 := n1_; have HB := n2_; clear n0_ n1_ n2_; (try (have n_ := Aside0.mk (Kd.R_mono (ok' := (fun k_ => some k_ ≠ (.slice (some ⟨go18, 0, none⟩) x9_2.length co18 : Value).ownBlock)) HO_10.out (fun k_ hk => hk.2)); clear HO_10; have HO_10 := n_; clear n_)); (try (obtain ⟨hy23_, hz23_⟩ := Kd.R_celln 0 HO_10.out (x12_2 : Int) (of_decide_eq_true pbb4_0) (of_decide_eq_true pbb4_0))); (try (have HP23 := Kd.R_putg HO_10.out (x12_2 : Int) t113)))); refine store_event (t := 3) (p := 74) (v := ?vo_w24) (w1 := (w22.setCell ⟨go20, (x12_2 : Int).toNat, none⟩ (.int .i64 t113))) ?hg ?ho ?hn ?hr ?_; (case ho => rfl); (case hg => rfl); (case hn => rfl); (case hr => first | (go_simp; done) | (go_simp; rfl)); intro w24 hw; have hg : w22.grownBy w24 (some go20) := (by rw [hw]; exact HP23.2); have hp_ : Kd.R (Kd.int .i64) 3 w24 w.heap.size (fun k_ => some k_ ≠ (.slice (some ⟨go18, 0, none⟩) x9_2.length co18 : Value).ownBlock) (.slice (some ⟨go20, 0, none⟩) x10_2.length co20) y116 := (by rw [hw, Ny116.out]; exact HP23.1); clear HP23; have n0_ := Aside0.mk (Kd.R_after (v := (.slice (some ⟨go20, 0, none⟩) x10_2.length co20)) (v1 := (.slice (some ⟨go20, 0, none⟩) x10_2.length co20)) (ok := (fun _ => True)) prr2_2 hg (.inl rfl)); have n1_ := Aside0.mk (hp_); have n2_ := Aside0.mk ((by rw [hw]; exact below_set (HB.out) GB20.out : Below w.heap.size w w24)); clear HO_9; clear HO_10; clear HB; have HO_9 := n0_; have HO_10 := n1_; have HB := n2_; clear n0_ n1_ n2_; clear hg hw hp_; have p117 : 0 ≤ (x12_2 : Int) := of_decide_eq_true pbb4_0; have q117 : x12_2 < (y115.length : Int) := (by have h_ : (x12_2 : Int) < ((x9_2.length : Int) : Int) := of_decide_eq_true pbb4_0; first | (have e_ := (Kd.R_reads' HO_9.out).1; omega) | simpa only [Ny115.out, List.length_set] using h_); have ql117 : ((x12_2 : Int) < ((x9_2.length : Int) : Int)) = True := eq_true (of_decide_eq_true pbb4_0); obtain ⟨ad117, e117, hx117_0⟩ := Kd.at_int (Kd.R_reads' HO_9.out).2.2 x12_2 p117 q117; obtain rfl : (⟨go18, 0, none⟩ : Addr) = ad117 := (by injection e117); (first | simp only [add_plain] at hx117_0 | simp only [add_at] at hx117_0 | simp only [Addr.add, Nat.zero_add] at hx117_0 | skip); replace p117 := eq_true p117; replace q117 := eq_true q117)))
            go_roundg k2
            case measure => have := HJ4.out; have := HK2.out; omega
            case rel => exact ⟨(y115), (y116), (wrap64 (x11_2 - (rd y115 x12_2))), (wrap64 (x12_2 + 1)), pbb2_0, pbb2_0, H', ⟨by have := HJ4.out; have := HK2.out; omega⟩, ⟨by (with_reducible repeat (first | apply Kd.R_alloc | apply Kd.R_drewN | apply Kd.R_drew)); exact Kd.R_mono HO_9.out (fun _ hk => hk.2)⟩, ⟨prr2_3⟩, ⟨pbb2_2⟩⟩
           ·rw [if_neg c19] at H; exact absurd H (by simp)
          ·rw [if_neg c17] at H; exact absurd H (by simp)
         ·rw [if_neg c14] at H; exact absurd H (by simp)
        ·rw [if_neg c13] at H; have c13b0 : decide (x12_2 < (l1.length : Int)) = false := decide_eq_false c13; clear c13; have H' := Aside0.mk H; clear H
         go_wp2
         repeat (go_quiet (fail); try go_wp2)
         go_loopg [11] k2 (fun kq v11 w' => ∃ (x9_3 : List Int) (x10_3 : List Int) (x11_3 : Int), v11 = .int .i64 x11_3 ∧ Aside0 (accountingref08_Shares.l1 kq a0 x9_3 x10_3 x11_3 = some (r1, r2)) ∧ Aside0 (kq ≤ k2) ∧ Aside0 (Kd.R (Kd.int .i64) 3 w' w.heap.size (fun k_ => some k_ ≠ (v107 : Value).ownBlock) v104 x9_3) ∧ Aside0 (Kd.R (Kd.int .i64) 3 w' w.heap.size (fun k_ => some k_ ≠ (v104 : Value).ownBlock) v107 x10_3) ∧ Aside0 (Below w.heap.size w w'))
         case atStart => exact ⟨(x9_2), (x10_2), (x11_2), pbb2_0, H', ⟨Nat.le_refl _⟩, ⟨prr2_4⟩, ⟨prr2_3⟩, ⟨pbb2_2⟩⟩
         case round =>
          clear H'; (try clear c1); (try clear p1); (try clear q1); (try clear hx1); (try clear c2); (try clear p2); (try clear q2); (try clear hx2); (try clear hf2); (try clear c4); (try clear c4b0); (try clear c4b1); (try clear c6); (try clear c6b0); (try clear p6); (try clear c7); (try clear c7b0); (try clear c7b1); (try clear c8); (try clear c8b0); (try clear c8b1); (try clear p10); (try clear q10); (try clear hx10); (try clear p11); (try clear q11); (try clear hx11); (try clear c13); (try clear c13b0); (try clear c14); (try clear c14b0); (try clear c17); (try clear c17b0); (try clear p18); (try clear q18); (try clear hx18); (try clear hf18); (try clear c19); (try clear c19b0); (try clear p20); (try clear q20); (try clear hx20); (try clear hf20); (try clear hx109_0); (try clear hx112_0); (try clear hx117_0); (try clear hx18_0); (try clear hx20_0); (try clear p109); (try clear p112); (try clear p117); (try clear p18); (try clear p2); (try clear p20); (try clear p6); (try clear q109); (try clear q112); (try clear q117); (try clear q18); (try clear q20); obtain ⟨x9_3, x10_3, x11_3, rfl, HA, HK3, HO_9, HO_10, HB⟩ := hrel
          cases gk with
          | zero => exact absurd HA.out (by simp [accountingref08_Shares.l1])
          | succ k3 =>
           have H := HA.out; clear HA; simp only [accountingref08_Shares.l1] at H
           by_cases c25 : x11_3 > 0
           ·rw [if_pos c25] at H; have c25b0 : decide (0 < x11_3) = true := decide_eq_true c25; clear c25; have H' := Aside0.mk H; clear H
            go_wp2
            repeat (go_quiet (fail); try go_wp2)
            go_loopg [17, 18] k3 (fun kq v17 v18 w' => ∃ (x17_4 : Int) (x18_4 : Int), v17 = .int .i64 x17_4 ∧ v18 = .int .i64 x18_4 ∧ Aside0 (accountingref08_Shares.l2 kq a0 x9_3 x10_3 x11_3 x17_4 x18_4 = some (r1, r2)) ∧ Aside0 (kq ≤ k3) ∧ Aside0 (Kd.R (Kd.int .i64) 3 w' w.heap.size (fun k_ => some k_ ≠ (v107 : Value).ownBlock) v104 x9_3) ∧ Aside0 (Kd.R (Kd.int .i64) 3 w' w.heap.size (fun k_ => some k_ ≠ (v104 : Value).ownBlock) v107 x10_3) ∧ Aside0 (Below w.heap.size w w'))
            case atStart => exact ⟨(0), (0), pbb2_0, pbb2_0, H', ⟨Nat.le_refl _⟩, ⟨prr2_4⟩, ⟨prr2_3⟩, ⟨pbb2_2⟩⟩
            case round =>
             clear H'; (try clear c1); (try clear p1); (try clear q1); (try clear hx1); (try clear c2); (try clear p2); (try clear q2); (try clear hx2); (try clear hf2); (try clear c4); (try clear c4b0); (try clear c4b1); (try clear c6); (try clear c6b0); (try clear p6); (try clear c7); (try clear c7b0); (try clear c7b1); (try clear c8); (try clear c8b0); (try clear c8b1); (try clear p10); (try clear q10); (try clear hx10); (try clear p11); (try clear q11); (try clear hx11); (try clear c13); (try clear c13b0); (try clear c14); (try clear c14b0); (try clear c17); (try clear c17b0); (try clear p18); (try clear q18); (try clear hx18); (try clear hf18); (try clear c19); (try clear c19b0); (try clear p20); (try clear q20); (try clear hx20); (try clear hf20); (try clear c25); (try clear c25b0); (try clear hx109_0); (try clear hx112_0); (try clear hx117_0); (try clear hx18_0); (try clear hx20_0); (try clear p1); (try clear p10); (try clear p109); (try clear p11); (try clear p112); (try clear p117); (try clear p18); (try clear p2); (try clear p20); (try clear p6); (try clear q1); (try clear q10); (try clear q109); (try clear q11); (try clear q112); (try clear q117); (try clear q18); (try clear q2); (try clear q20); obtain ⟨x17_4, x18_4, rfl, rfl, HA, HK4, HO_9, HO_10, HB⟩ := hrel
             cases gk with
             | zero => exact absurd HA.out (by simp [accountingref08_Shares.l2])
             | succ k4 =>
              have H := HA.out; clear HA; simp only [accountingref08_Shares.l2] at H
              by_cases c26 : x18_4 < (x10_3.length : Int)
              ·rw [if_pos c26] at H; have c26b0 : decide (x18_4 < (x10_3.length : Int)) = true := decide_eq_true c26; clear c26
               by_cases c27 : 0 ≤ x18_4
               ·rw [if_pos c27] at H; have c27b0 : decide (0 ≤ x18_4) = true := decide_eq_true c27; clear c27
                by_cases c28 : 0 ≤ x17_4
                ·rw [if_pos c28] at H; have c28b0 : decide (0 ≤ x17_4) = true := decide_eq_true c28; clear c28
                 by_cases c29 : x17_4 < (x10_3.length : Int)
                 ·rw [if_pos c29] at H; have c29b0 : decide (x17_4 < (x10_3.length : Int)) = true := decide_eq_true c29; clear c29
                  by_cases c30 : (rd x10_3 x18_4) > (rd x10_3 x17_4)
                  ·rw [if_pos c30] at H; have c30b0 : decide ((rd x10_3 x17_4) < (rd x10_3 x18_4)) = true := decide_eq_true c30; clear c30; have H' := Aside0.mk H; clear H; obtain ⟨Ao31, co31, eo31⟩ := Kd.R_slice HO_10.out; subst eo31; have p118 : 0 ≤ (x18_4 : Int) := of_decide_eq_true pbb4_0; have q118 : x18_4 < (x10_3.length : Int) := of_decide_eq_true pbb4_0; obtain ⟨ad118, e118, hx118_0⟩ := Kd.at_int (Kd.R_reads' HO_10.out).2.2 x18_4 p118 q118
                   cases e118
                   replace p118 := eq_true p118; replace q118 := eq_true q118; have p119 : 0 ≤ (x17_4 : Int) := of_decide_eq_true pbb4_0; have q119 : x17_4 < (x10_3.length : Int) := of_decide_eq_true pbb4_0; obtain ⟨ad119, e119, hx119_0⟩ := Kd.at_int (Kd.R_reads' HO_10.out).2.2 x17_4 p119 q119; obtain rfl : ad118 = ad119 := (by injection e119); replace p119 := eq_true p119; replace q119 := eq_true q119
                   go_wp2
                   repeat (go_quiet (fail); try go_wp2)
                   go_roundg k4
                   case measure => have := HJ4.out; have := HK2.out; have := HK3.out; have := HK4.out; omega
                   case rel => exact ⟨(x18_4), (wrap64 (x18_4 + 1)), pbb2_0, pbb2_0, H', ⟨prr2_5⟩, ⟨prr2_4⟩, ⟨prr2_3⟩, ⟨pbb2_2⟩⟩
                  ·rw [if_neg c30] at H; have c30b0 : decide ((rd x10_3 x17_4) < (rd x10_3 x18_4)) = false := decide_eq_false c30; clear c30; have H' := Aside0.mk H; clear H; obtain ⟨Ao32, co32, eo32⟩ := Kd.R_slice HO_10.out; subst eo32; have p118 : 0 ≤ (x18_4 : Int) := of_decide_eq_true pbb4_0; have q118 : x18_4 < (x10_3.length : Int) := of_decide_eq_true pbb4_0; obtain ⟨ad118, e118, hx118_0⟩ := Kd.at_int (Kd.R_reads' HO_10.out).2.2 x18_4 p118 q118
                   cases e118
                   replace p118 := eq_true p118; replace q118 := eq_true q118; have p119 : 0 ≤ (x17_4 : Int) := of_decide_eq_true pbb4_0; have q119 : x17_4 < (x10_3.length : Int) := of_decide_eq_true pbb4_0; obtain ⟨ad119, e119, hx119_0⟩ := Kd.at_int (Kd.R_reads' HO_10.out).2.2 x17_4 p119 q119; obtain rfl : ad118 = ad119 := (by injection e119); replace p119 := eq_true p119; replace q119 := eq_true q119
                   go_wp2
                   repeat (go_quiet (fail); try go_wp2)
                   go_roundg k4
                   case measure => have := HJ4.out; have := HK2.out; have := HK3.out; have := HK4.out; omega
                   case rel => exact ⟨(x17_4), (wrap64 (x18_4 + 1)), pbb2_0, pbb2_0, H', ⟨prr2_5⟩, ⟨prr2_4⟩, ⟨prr2_3⟩, ⟨pbb2_2⟩⟩
                 ·rw [if_neg c29] at H; exact absurd H (by simp)
                ·rw [if_neg c28] at H; exact absurd H (by simp)
               ·rw [if_neg c27] at H; exact absurd H (by simp)
              ·rw [if_neg c26] at H; have c26b0 : decide (x18_4 < (x10_3.length : Int)) = false := decide_eq_false c26; clear c26
               by_cases c33 : 0 ≤ x17_4
               ·rw [if_pos c33] at H; have c33b0 : decide (0 ≤ x17_4) = true := decide_eq_true c33; clear c33
                by_cases c34 : x17_4 < (x9_3.length : Int)
                ·rw [if_pos c34] at H; have c34b0 : decide (x17_4 < (x9_3.length : Int)) = true := decide_eq_true c34; clear c34; obtain ⟨y121, hy121⟩ : ∃ y_ : List Int, y_ = (x9_3.set (x17_4 : Int).toNat (wrap64 ((rd x9_3 x17_4) + 1))) := ⟨_, rfl⟩; replace H : (if x17_4 < (x10_3.length : Int) then (accountingref08_Shares.l1 k4 a0 y121 (x10_3.set (x17_4 : Int).toNat (-1)) (wrap64 (x11_3 - 1))) else (none)) = some (r1, r2) := by first | (rw [hy121]; with_reducible exact H) | (have H2_ := (Option.bind_some _ _).symm.trans H; rw [hy121]; with_reducible exact H2_) | (have H2_ := (Option.bind_some _ _).symm.trans H; with_reducible exact H2_) | with_reducible exact H | (rw [hy121]; exact H) | exact H
                 have Ny121 := Aside0.mk hy121; clear hy121
                 by_cases c36 : x17_4 < (x10_3.length : Int)
                 ·rw [if_pos c36] at H; have c36b0 : decide (x17_4 < (x10_3.length : Int)) = true := decide_eq_true c36; clear c36; obtain ⟨y122, hy122⟩ : ∃ y_ : List Int, y_ = (x10_3.set (x17_4 : Int).toNat (-1)) := ⟨_, rfl⟩; replace H : (accountingref08_Shares.l1 k4 a0 y121 y122 (wrap64 (x11_3 - 1))) = some (r1, r2) := by first | (rw [hy122]; with_reducible exact H) | (have H2_ := (Option.bind_some _ _).symm.trans H; rw [hy122]; with_reducible exact H2_) | (have H2_ := (Option.bind_some _ _).symm.trans H; with_reducible exact H2_) | with_reducible exact H | (rw [hy122]; exact H) | exact H
                  have Ny122 := Aside0.mk hy122; clear hy122; have H' := Aside0.mk H; clear H; obtain ⟨Ao38, co38, eo38⟩ := Kd.R_slice HO_10.out; subst eo38; obtain ⟨Ao39, co39, eo39⟩ := Kd.R_slice HO_9.out; subst eo39; have p120 : 0 ≤ (x17_4 : Int) := of_decide_eq_true pbb4_0; have q120 : x17_4 < (x9_3.length : Int) := of_decide_eq_true pbb4_0; obtain ⟨ad120, e120, hx120_0⟩ := Kd.at_int (Kd.R_reads' HO_9.out).2.2 x17_4 p120 q120
                  cases e120
                  replace p120 := eq_true p120; replace q120 := eq_true q120; have p35 : 0 ≤ (x17_4 : Int) := of_decide_eq_true pbb4_0; have q35 : (x17_4 : Int) < ((x9_3.length : Int) : Int) := of_decide_eq_true pbb4_0; obtain ⟨go35, co35, eo35, gb35, gl35, cl35, HG35⟩ := Kd.R_form HO_9.out (by omega); (first | cases eo35 | (injection eo35 with ea_ en_ ec_; (first | subst ea_ | (injection ea_ with ea_; subst ea_)); subst ec_; clear en_)); have GB35 := Aside0.mk gb35; have GG35 := Aside0.mk HG35; clear gb35 gl35 HG35; (first | simp only [add_plain] at hx120_0 | skip); obtain ⟨hx35_0, hf35_0⟩ := Kd.R_celln 0 HO_9.out (x17_4 : Int) p35 q35; replace p35 := eq_true p35; replace q35 := eq_true q35; have HP40 := Kd.R_putg HO_9.out (x17_4 : Int) (wrap64 ((rd x9_3 x17_4) + 1))
                  go_wp2_with (first | ((with_reducible refine gate_store (t := 3) (p := 106) rfl ?_); (try (rw [drewN_self wr]; generalize hq_ : World.drewN wr _ = wr; have n0_ := Aside0.mk (Kd.R_at hq_ HO_9.out); have n1_ := Aside0.mk (Kd.R_at hq_ HO_10.out); have n2_ := Aside0.mk (below_at hq_ HB.out); clear hq_ HO_9 HO_10 HB; have HO_9 := n0_; have HO_10 := n1_; have HB := n2_; clear n0_ n1_ n2_; (try (have HP40 := Kd.R_putg HO_9.out (x17_4 : Int) (wrap64 ((rd x9_3 x17_4) + 1)))))); refine store_event (t := 3) (p := 106) (v := ?vo_w41) (w1 := (wr.setCell ⟨go35, (x17_4 : Int).toNat, none⟩ (.int .i64 (wrap64 ((rd x9_3 x17_4) + 1))))) ?hg ?ho ?hn ?hr ?_; (case ho => rfl); (case hg => rfl); (case hn => rfl); (case hr => first | (go_simp; done) | (go_simp; rfl)); intro w41 hw; have hg : wr.grownBy w41 (some go35) := (by rw [hw]; exact HP40.2); have hp_ : Kd.R (Kd.int .i64) 3 w41 w.heap.size (fun k_ => some k_ ≠ (.slice Ao38 x10_3.length co38 : Value).ownBlock) (.slice (some ⟨go35, 0, none⟩) x9_3.length co39) y121 := (by rw [hw, Ny121.out]; exact HP40.1); clear HP40; have n0_ := Aside0.mk (hp_); have n1_ := Aside0.mk (Kd.R_after (v := (.slice (some ⟨go35, 0, none⟩) x9_3.length co39)) (v1 := (.slice (some ⟨go35, 0, none⟩) x9_3.length co39)) (ok := (fun _ => True)) prr2_1 hg (.inl rfl)); have n2_ := Aside0.mk ((by rw [hw]; exact below_set (HB.out) GB35.out : Below w.heap.size w w41)); clear HO_9; clear HO_10; clear HB; have HO_9 := n0_; have HO_10 := n1_; have HB := n2_; clear n0_ n1_ n2_; clear hg hw hp_; have p37 : 0 ≤ (x17_4 : Int) := of_decide_eq_true pbb4_0; have q37 : (x17_4 : Int) < ((x10_3.length : Int) : Int) := of_decide_eq_true pbb4_0; obtain ⟨go37, co37, eo37, gb37, gl37, cl37, HG37⟩ := Kd.R_form HO_10.out (by omega); (first | cases eo37 | (injection eo37 with ea_ en_ ec_; (first | subst ea_ | (injection ea_ with ea_; subst ea_)); subst ec_; clear en_)); have GB37 := Aside0.mk gb37; have GG37 := Aside0.mk HG37; clear gb37 gl37 HG37; obtain ⟨hx37_0, hf37_0⟩ := Kd.R_celln 0 HO_10.out (x17_4 : Int) p37 q37; replace p37 := eq_true p37; replace q37 := eq_true q37; have n_ := Aside0.mk (Kd.R_mono (ok' := (fun k_ => some k_ ≠ (.slice (some ⟨go35, 0, none⟩) x9_3.length co39 : Value).ownBlock)) HO_10.out (fun k_ hk => hk.2)); clear HO_10; have HO_10 := n_; clear n_; obtain ⟨hy42_, hz42_⟩ := Kd.R_celln 0 HO_10.out (x17_4 : Int) (of_decide_eq_true pbb4_0) (of_decide_eq_true pbb4_0); have HP42 := Kd.R_putg HO_10.out (x17_4 : Int) (-1)) | ((with_reducible refine gate_store (t := 3) (p := 109) rfl ?_); (try (rw [drewN_self w41]; generalize hq_ : World.drewN w41 _ = w41; have n0_ := Aside0.mk (Kd.R_at hq_ HO_9.out); have n1_ := Aside0.mk (Kd.R_at hq_ HO_10.out); have n2_ := Aside0.mk (below_at hq_ HB.out); clear hq_ HO_9 HO_10 HB; have HO_9 := n0_; have HO_10 := n1_; have HB := n2_; clear n0_ n1_ n2_; (try (have n_ := Aside0.mk (Kd.R_mono (ok' := (fun k_ => some k_ ≠ (.slice (some ⟨go35, 0, none⟩) x9_3.length co39 : Value).ownBlock)) HO_10.out (fun k_ hk => hk.2)); clear HO_10; have HO_10 := n_; clear n_)); (try (obtain ⟨hy42_, hz42_⟩ := Kd.R_celln 0 HO_10.out (x17_4 : Int) (of_decide_eq_true pbb4_0) (of_decide_eq_true pbb4_0))); (try (have HP42 := Kd.R_putg HO_10.out (x17_4 : Int) (-1))))); refine store_event (t := 3) (p := 109) (v := ?vo_w43) (w1 := (w41.setCell ⟨go37, (x17_4 : Int).toNat, none⟩ (.int .i64 (-1)))) ?hg ?ho ?hn ?hr ?_; (case ho => rfl); (case hg => rfl); (case hn => rfl); (case hr => first | (go_simp; done) | (go_simp; rfl)); intro w43 hw; have hg : w41.grownBy w43 (some go37) := (by rw [hw]; exact HP42.2); have hp_ : Kd.R (Kd.int .i64) 3 w43 w.heap.size (fun k_ => some k_ ≠ (.slice (some ⟨go35, 0, none⟩) x9_3.length co39 : Value).ownBlock) (.slice (some ⟨go37, 0, none⟩) x10_3.length co38) y122 := (by rw [hw, Ny122.out]; exact HP42.1); clear HP42; have n0_ := Aside0.mk (Kd.R_after (v := (.slice (some ⟨go37, 0, none⟩) x10_3.length co38)) (v1 := (.slice (some ⟨go37, 0, none⟩) x10_3.length co38)) (ok := (fun _ => True)) prr2_2 hg (.inl rfl)); have n1_ := Aside0.mk (hp_); have n2_ := Aside0.mk ((by rw [hw]; exact below_set (HB.out) GB37.out : Below w.heap.size w w43)); clear HO_9; clear HO_10; clear HB; have HO_9 := n0_; have HO_10 := n1_; have HB := n2_; clear n0_ n1_ n2_; clear hg hw hp_))
                  repeat (go_quiet (first | ((with_reducible refine gate_store (t := 3) (p := 106) rfl ?_); (try (rw [drewN_self wr]; generalize hq_ : World.drewN wr _ = wr; have n0_ := Aside0.mk (Kd.R_at hq_ HO_9.out); have n1_ := Aside0.mk (Kd.R_at hq_ HO_10.out); have n2_ := Aside0.mk (below_at hq_ HB.out); clear hq_ HO_9 HO_10 HB; have HO_9 := n0_; have HO_10 := n1_; have HB := n2_; clear n0_ n1_ n2_; (try (have HP40 := Kd.R_putg HO_9.out (x17_4 : Int) (wrap64 ((rd x9_3 x17_4) + 1)))))); refine store_event (t := 3) (p := 106) (v := ?vo_w41) (w1 := (wr.setCell ⟨go35, (x17_4 : Int).toNat, none⟩ (.int .i64 (wrap64 ((rd x9_3 x17_4) + 1))))) ?hg ?ho ?hn ?hr ?_; (case ho => rfl); (case hg => rfl); (case hn => rfl); (case hr => first | (go_simp; done) | (go_simp; rfl)); intro w41 hw; have hg : wr.grownBy w41 (some go35) := (by rw [hw]; exact HP40.2); have hp_ : Kd.R (Kd.int .i64) 3 w41 w.heap.size (fun k_ => some k_ ≠ (.slice Ao38 x10_3.length co38 : Value).ownBlock) (.slice (some ⟨go35, 0, none⟩) x9_3.length co39) y121 := (by rw [hw, Ny121.out]; exact HP40.1); clear HP40; have n0_ := Aside0.mk (hp_); have n1_ := Aside0.mk (Kd.R_after (v := (.slice (some ⟨go35, 0, none⟩) x9_3.length co39)) (v1 := (.slice (some ⟨go35, 0, none⟩) x9_3.length co39)) (ok := (fun _ => True)) prr2_1 hg (.inl rfl)); have n2_ := Aside0.mk ((by rw [hw]; exact below_set (HB.out) GB35.out : Below w.heap.size w w41)); clear HO_9; clear HO_10; clear HB; have HO_9 := n0_; have HO_10 := n1_; have HB := n2_; clear n0_ n1_ n2_; clear hg hw hp_; have p37 : 0 ≤ (x17_4 : Int) := of_decide_eq_true pbb4_0; have q37 : (x17_4 : Int) < ((x10_3.length : Int) : Int) := of_decide_eq_true pbb4_0; obtain ⟨go37, co37, eo37, gb37, gl37, cl37, HG37⟩ := Kd.R_form HO_10.out (by omega); (first | cases eo37 | (injection eo37 with ea_ en_ ec_; (first | subst ea_ | (injection ea_ with ea_; subst ea_)); subst ec_; clear en_)); have GB37 := Aside0.mk gb37; have GG37 := Aside0.mk HG37; clear gb37 gl37 HG37; obtain ⟨hx37_0, hf37_0⟩ := Kd.R_celln 0 HO_10.out (x17_4 : Int) p37 q37; replace p37 := eq_true p37; replace q37 := eq_true q37; have n_ := Aside0.mk (Kd.R_mono (ok' := (fun k_ => some k_ ≠ (.slice (some ⟨go35, 0, none⟩) x9_3.length co39 : Value).ownBlock)) HO_10.out (fun k_ hk => hk.2)); clear HO_10; have HO_10 := n_; clear n_; obtain ⟨hy42_, hz42_⟩ := Kd.R_celln 0 HO_10.out (x17_4 : Int) (of_decide_eq_true pbb4_0) (of_decide_eq_true pbb4_0); have HP42 := Kd.R_putg HO_10.out (x17_4 : Int) (-1)) | ((with_reducible refine gate_store (t := 3) (p := 109) rfl ?_); (try (rw [drewN_self w41]; generalize hq_ : World.drewN w41 _ = w41; have n0_ := Aside0.mk (Kd.R_at hq_ HO_9.out); have n1_ := Aside0.mk (Kd.R_at hq_ HO_10.out); have n2_ := Aside0.mk (below_at hq_ HB.out); clear hq_ HO_9 HO_10 HB; have HO_9 := n0_; have HO_10 := n1_; have HB := n2_; clear n0_ n1_ n2_; (try (have n_ := Aside0.mk (Kd.R_mono (ok' := (fun k_ => some k_ ≠ (.slice (some ⟨go35, 0, none⟩) x9_3.length co39 : Value).ownBlock)) HO_10.out (fun k_ hk => hk.2)); clear HO_10; have HO_10 := n_; clear n_)); (try (obtain ⟨hy42_, hz42_⟩ := Kd.R_celln 0 HO_10.out (x17_4 : Int) (of_decide_eq_true pbb4_0) (of_decide_eq_true pbb4_0))); (try (have HP42 := Kd.R_putg HO_10.out (x17_4 : Int) (-1))))); refine store_event (t := 3) (p := 109) (v := ?vo_w43) (w1 := (w41.setCell ⟨go37, (x17_4 : Int).toNat, none⟩ (.int .i64 (-1)))) ?hg ?ho ?hn ?hr ?_; (case ho => rfl); (case hg => rfl); (case hn => rfl); (case hr => first | (go_simp; done) | (go_simp; rfl)); intro w43 hw; have hg : w41.grownBy w43 (some go37) := (by rw [hw]; exact HP42.2); have hp_ : Kd.R (Kd.int .i64) 3 w43 w.heap.size (fun k_ => some k_ ≠ (.slice (some ⟨go35, 0, none⟩) x9_3.length co39 : Value).ownBlock) (.slice (some ⟨go37, 0, none⟩) x10_3.length co38) y122 := (by rw [hw, Ny122.out]; exact HP42.1); clear HP42; have n0_ := Aside0.mk (Kd.R_after (v := (.slice (some ⟨go37, 0, none⟩) x10_3.length co38)) (v1 := (.slice (some ⟨go37, 0, none⟩) x10_3.length co38)) (ok := (fun _ => True)) prr2_2 hg (.inl rfl)); have n1_ := Aside0.mk (hp_); have n2_ := Aside0.mk ((by rw [hw]; exact below_set (HB.out) GB37.out : Below w.heap.size w w43)); clear HO_9; clear HO_10; clear HB; have HO_9 := n0_; have HO_10 := n1_; have HB := n2_; clear n0_ n1_ n2_; clear hg hw hp_)); try go_wp2_with (first | ((with_reducible refine gate_store (t := 3) (p := 106) rfl ?_); (try (rw [drewN_self wr]; generalize hq_ : World.drewN wr _ = wr; have n0_ := Aside0.mk (Kd.R_at hq_ HO_9.out); have n1_ := Aside0.mk (Kd.R_at hq_ HO_10.out); have n2_ := Aside0.mk (below_at hq_ HB.out); clear hq_ HO_9 HO_10 HB; have HO_9 := n0_; have HO_10 := n1_; have HB := n2_; clear n0_ n1_ n2_; (try (have HP40 := Kd.R_putg HO_9.out (x17_4 : Int) (wrap64 ((rd x9_3 x17_4) + 1)))))); refine store_event (t := 3) (p := 106) (v := ?vo_w41) (w1 := (wr.setCell ⟨go35, (x17_4 : Int).toNat, none⟩ (.int .i64 (wrap64 ((rd x9_3 x17_4) + 1))))) ?hg ?ho ?hn ?hr ?_; (case ho => rfl); (case hg => rfl); (case hn => rfl); (case hr => first | (go_simp; done) | (go_simp; rfl)); intro w41 hw; have hg : wr.grownBy w41 (some go35) := (by rw [hw]; exact HP40.2); have hp_ : Kd.R (Kd.int .i64) 3 w41 w.heap.size (fun k_ => some k_ ≠ (.slice Ao38 x10_3.length co38 : Value).ownBlock) (.slice (some ⟨go35, 0, none⟩) x9_3.length co39) y121 := (by rw [hw, Ny121.out]; exact HP40.1); clear HP40; have n0_ := Aside0.mk (hp_); have n1_ := Aside0.mk (Kd.R_after (v := (.slice (some ⟨go35, 0, none⟩) x9_3.length co39)) (v1 := (.slice (some ⟨go35, 0, none⟩) x9_3.length co39)) (ok := (fun _ => True)) prr2_1 hg (.inl rfl)); have n2_ := Aside0.mk ((by rw [hw]; exact below_set (HB.out) GB35.out : Below w.heap.size w w41)); clear HO_9; clear HO_10; clear HB; have HO_9 := n0_; have HO_10 := n1_; have HB := n2_; clear n0_ n1_ n2_; clear hg hw hp_; have p37 : 0 ≤ (x17_4 : Int) := of_decide_eq_true pbb4_0; have q37 : (x17_4 : Int) < ((x10_3.length : Int) : Int) := of_decide_eq_true pbb4_0; obtain ⟨go37, co37, eo37, gb37, gl37, cl37, HG37⟩ := Kd.R_form HO_10.out (by omega); (first | cases eo37 | (injection eo37 with ea_ en_ ec_; (first | subst ea_ | (injection ea_ with ea_; subst ea_)); subst ec_; clear en_)); have GB37 := Aside0.mk gb37; have GG37 := Aside0.mk HG37; clear gb37 gl37 HG37; obtain ⟨hx37_0, hf37_0⟩ := Kd.R_celln 0 HO_10.out (x17_4 : Int) p37 q37; replace p37 := eq_true p37; replace q37 := eq_true q37; have n_ := Aside0.mk (Kd.R_mono (ok' := (fun k_ => some k_ ≠ (.slice (some ⟨go35, 0, none⟩) x9_3.length co39 : Value).ownBlock)) HO_10.out (fun k_ hk => hk.2)); clear HO_10; have HO_10 := n_; clear n_; obtain ⟨hy42_, hz42_⟩ := Kd.R_celln 0 HO_10.out (x17_4 : Int) (of_decide_eq_true pbb4_0) (of_decide_eq_true pbb4_0); have HP42 := Kd.R_putg HO_10.out (x17_4 : Int) (-1)) | ((with_reducible refine gate_store (t := 3) (p := 109) rfl ?_); (try (rw [drewN_self w41]; generalize hq_ : World.drewN w41 _ = w41; have n0_ := Aside0.mk (Kd.R_at hq_ HO_9.out); have n1_ := Aside0.mk (Kd.R_at hq_ HO_10.out); have n2_ := Aside0.mk (below_at hq_ HB.out); clear hq_ HO_9 HO_10 HB; have HO_9 := n0_; have HO_10 := n1_; have HB := n2_; clear n0_ n1_ n2_; (try (have n_ := Aside0.mk (Kd.R_mono (ok' := (fun k_ => some k_ ≠ (.slice (some ⟨go35, 0, none⟩) x9_3.length co39 : Value).ownBlock)) HO_10.out (fun k_ hk => hk.2)); clear HO_10; have HO_10 := n_; clear n_)); (try (obtain ⟨hy42_, hz42_⟩ := Kd.R_celln 0 HO_10.out (x17_4 : Int) (of_decide_eq_true pbb4_0) (of_decide_eq_true pbb4_0))); (try (have HP42 := Kd.R_putg HO_10.out (x17_4 : Int) (-1))))); refine store_event (t := 3) (p := 109) (v := ?vo_w43) (w1 := (w41.setCell ⟨go37, (x17_4 : Int).toNat, none⟩ (.int .i64 (-1)))) ?hg ?ho ?hn ?hr ?_; (case ho => rfl); (case hg => rfl); (case hn => rfl); (case hr => first | (go_simp; done) | (go_simp; rfl)); intro w43 hw; have hg : w41.grownBy w43 (some go37) := (by rw [hw]; exact HP42.2); have hp_ : Kd.R (Kd.int .i64) 3 w43 w.heap.size (fun k_ => some k_ ≠ (.slice (some ⟨go35, 0, none⟩) x9_3.length co39 : Value).ownBlock) (.slice (some ⟨go37, 0, none⟩) x10_3.length co38) y122 := (by rw [hw, Ny122.out]; exact HP42.1); clear HP42; have n0_ := Aside0.mk (Kd.R_after (v := (.slice (some ⟨go37, 0, none⟩) x10_3.length co38)) (v1 := (.slice (some ⟨go37, 0, none⟩) x10_3.length co38)) (ok := (fun _ => True)) prr2_2 hg (.inl rfl)); have n1_ := Aside0.mk (hp_); have n2_ := Aside0.mk ((by rw [hw]; exact below_set (HB.out) GB37.out : Below w.heap.size w w43)); clear HO_9; clear HO_10; clear HB; have HO_9 := n0_; have HO_10 := n1_; have HB := n2_; clear n0_ n1_ n2_; clear hg hw hp_)))
                  go_roundg k4
                  case measure => have := HJ4.out; have := HK2.out; have := HK3.out; have := HK4.out; omega
                  case rel => exact ⟨(y121), (y122), (wrap64 (x11_3 - 1)), pbb2_0, H', ⟨prr2_5⟩, ⟨by (with_reducible repeat (first | apply Kd.R_alloc | apply Kd.R_drewN | apply Kd.R_drew)); exact Kd.R_mono HO_9.out (fun _ hk => hk.2)⟩, ⟨prr2_3⟩, ⟨pbb2_2⟩⟩
                 ·rw [if_neg c36] at H; exact absurd H (by simp)
                ·rw [if_neg c34] at H; exact absurd H (by simp)
               ·rw [if_neg c33] at H; exact absurd H (by simp)
           ·rw [if_neg c25] at H; have c25b0 : decide (0 < x11_3) = false := decide_eq_false c25; clear c25; have H' := Aside0.mk H; clear H
            go_wp2
            repeat (go_quiet (fail); try go_wp2)
            go_loopg [19] k3 (fun kq v19 w' => ∃ (x9_4 : List Int) (x19_4 : Int), v19 = .int .i64 x19_4 ∧ Aside0 (accountingref08_Shares.l3 kq a0 x9_4 x19_4 = some (r1, r2)) ∧ Aside0 (kq ≤ k3) ∧ Aside0 (Kd.R (Kd.int .i64) 3 w' w.heap.size (fun _ => True) v104 x9_4) ∧ Aside0 (Below w.heap.size w w'))
            case atStart => exact ⟨(x9_3), (0), pbb2_0, H', ⟨Nat.le_refl _⟩, ⟨by (with_reducible repeat (first | apply Kd.R_alloc | apply Kd.R_drewN | apply Kd.R_drew)); exact Kd.R_mono HO_9.out (fun _ hk => trivial)⟩, ⟨pbb2_2⟩⟩
            case round =>
             clear H'; (try clear c1); (try clear p1); (try clear q1); (try clear hx1); (try clear c2); (try clear p2); (try clear q2); (try clear hx2); (try clear hf2); (try clear c3); (try clear p3); (try clear q3); (try clear hx3); (try clear hf3); (try clear c4); (try clear c4b0); (try clear c4b1); (try clear c6); (try clear c6b0); (try clear p6); (try clear c7); (try clear c7b0); (try clear c7b1); (try clear c8); (try clear c8b0); (try clear c8b1); (try clear p10); (try clear q10); (try clear hx10); (try clear p11); (try clear q11); (try clear hx11); (try clear p12); (try clear q12); (try clear hx12); (try clear c13); (try clear c13b0); (try clear c14); (try clear c14b0); (try clear c17); (try clear c17b0); (try clear p18); (try clear q18); (try clear hx18); (try clear hf18); (try clear c19); (try clear c19b0); (try clear p20); (try clear q20); (try clear hx20); (try clear hf20); (try clear c25); (try clear c25b0); (try clear c26); (try clear c26b0); (try clear c27); (try clear c27b0); (try clear c28); (try clear c28b0); (try clear c29); (try clear c29b0); (try clear c30); (try clear c30b0); (try clear c33); (try clear c33b0); (try clear c34); (try clear c34b0); (try clear p35); (try clear q35); (try clear hx35); (try clear hf35); (try clear c36); (try clear c36b0); (try clear p37); (try clear q37); (try clear hx37); (try clear hf37); (try clear hx109_0); (try clear hx112_0); (try clear hx117_0); (try clear hx118_0); (try clear hx119_0); (try clear hx120_0); (try clear hx18_0); (try clear hx20_0); (try clear hx35_0); (try clear hx37_0); (try clear p1); (try clear p10); (try clear p109); (try clear p11); (try clear p112); (try clear p117); (try clear p118); (try clear p119); (try clear p120); (try clear p18); (try clear p2); (try clear p20); (try clear p35); (try clear p37); (try clear p6); (try clear q1); (try clear q10); (try clear q109); (try clear q11); (try clear q112); (try clear q117); (try clear q118); (try clear q119); (try clear q120); (try clear q18); (try clear q2); (try clear q20); (try clear q35); (try clear q37); obtain ⟨x9_4, x19_4, rfl, HA, HK4, HO_9, HB⟩ := hrel
             cases gk with
             | zero => exact absurd HA.out (by simp [accountingref08_Shares.l3])
             | succ k4 =>
              have H := HA.out; clear HA; simp only [accountingref08_Shares.l3] at H
              by_cases c44 : x19_4 < (x9_4.length : Int)
              ·rw [if_pos c44] at H; have c44b0 : decide (x19_4 < (x9_4.length : Int)) = true := decide_eq_true c44; clear c44
               by_cases c45 : a0 < 0
               ·rw [if_pos c45] at H; have c45b0 : decide (a0 < 0) = true := decide_eq_true c45; clear c45
                by_cases c46 : 0 ≤ x19_4
                ·rw [if_pos c46] at H; have c46b0 : decide (0 ≤ x19_4) = true := decide_eq_true c46; clear c46; obtain ⟨y124, hy124⟩ : ∃ y_ : List Int, y_ = (x9_4.set (x19_4 : Int).toNat (wrap64 (-(rd x9_4 x19_4)))) := ⟨_, rfl⟩; replace H : (accountingref08_Shares.l3 k4 a0 y124 (wrap64 (x19_4 + 1))) = some (r1, r2) := by first | (rw [hy124]; with_reducible exact H) | (have H2_ := (Option.bind_some _ _).symm.trans H; rw [hy124]; with_reducible exact H2_) | (have H2_ := (Option.bind_some _ _).symm.trans H; with_reducible exact H2_) | with_reducible exact H | (rw [hy124]; exact H) | exact H
                 have Ny124 := Aside0.mk hy124; clear hy124; have H' := Aside0.mk H; clear H; obtain ⟨Ao48, co48, eo48⟩ := Kd.R_slice HO_9.out; subst eo48; have p123 : 0 ≤ (x19_4 : Int) := of_decide_eq_true pbb4_0; have q123 : x19_4 < (x9_4.length : Int) := of_decide_eq_true pbb4_0; obtain ⟨ad123, e123, hx123_0⟩ := Kd.at_int (Kd.R_reads' HO_9.out).2.2 x19_4 p123 q123
                 cases e123
                 replace p123 := eq_true p123; replace q123 := eq_true q123; have p47 : 0 ≤ (x19_4 : Int) := of_decide_eq_true pbb4_0; have q47 : (x19_4 : Int) < ((x9_4.length : Int) : Int) := of_decide_eq_true pbb4_0; obtain ⟨go47, co47, eo47, gb47, gl47, cl47, HG47⟩ := Kd.R_form HO_9.out (by omega); (first | cases eo47 | (injection eo47 with ea_ en_ ec_; (first | subst ea_ | (injection ea_ with ea_; subst ea_)); subst ec_; clear en_)); have GB47 := Aside0.mk gb47; have GG47 := Aside0.mk HG47; clear gb47 gl47 HG47; (first | simp only [add_plain] at hx123_0 | skip); obtain ⟨hx47_0, hf47_0⟩ := Kd.R_celln 0 HO_9.out (x19_4 : Int) p47 q47; replace p47 := eq_true p47; replace q47 := eq_true q47; have HP49 := Kd.R_putg HO_9.out (x19_4 : Int) (wrap64 (-(rd x9_4 x19_4)))
                 go_wp2_with (first | ((with_reducible refine gate_store (t := 3) (p := 129) rfl ?_); (try (rw [drewN_self wr]; generalize hq_ : World.drewN wr _ = wr; have n0_ := Aside0.mk (Kd.R_at hq_ HO_9.out); have n1_ := Aside0.mk (below_at hq_ HB.out); clear hq_ HO_9 HB; have HO_9 := n0_; have HB := n1_; clear n0_ n1_; (try (have HP49 := Kd.R_putg HO_9.out (x19_4 : Int) (wrap64 (-(rd x9_4 x19_4))))))); refine store_event (t := 3) (p := 129) (v := ?vo_w50) (w1 := (wr.setCell ⟨go47, (x19_4 : Int).toNat, none⟩ (.int .i64 (wrap64 (-(rd x9_4 x19_4)))))) ?hg ?ho ?hn ?hr ?_; (case ho => rfl); (case hg => rfl); (case hn => rfl); (case hr => first | (go_simp; done) | (go_simp; rfl)); intro w50 hw; have hg : wr.grownBy w50 (some go47) := (by rw [hw]; exact HP49.2); have hp_ : Kd.R (Kd.int .i64) 3 w50 w.heap.size (fun _ => True) (.slice (some ⟨go47, 0, none⟩) x9_4.length co48) y124 := (by rw [hw, Ny124.out]; exact HP49.1); clear HP49; have n0_ := Aside0.mk (hp_); have n1_ := Aside0.mk ((by rw [hw]; exact below_set (HB.out) GB47.out : Below w.heap.size w w50)); clear HO_9; clear HB; have HO_9 := n0_; have HB := n1_; clear n0_ n1_; clear hg hw hp_))
                 repeat (go_quiet (first | ((with_reducible refine gate_store (t := 3) (p := 129) rfl ?_); (try (rw [drewN_self wr]; generalize hq_ : World.drewN wr _ = wr; have n0_ := Aside0.mk (Kd.R_at hq_ HO_9.out); have n1_ := Aside0.mk (below_at hq_ HB.out); clear hq_ HO_9 HB; have HO_9 := n0_; have HB := n1_; clear n0_ n1_; (try (have HP49 := Kd.R_putg HO_9.out (x19_4 : Int) (wrap64 (-(rd x9_4 x19_4))))))); refine store_event (t := 3) (p := 129) (v := ?vo_w50) (w1 := (wr.setCell ⟨go47, (x19_4 : Int).toNat, none⟩ (.int .i64 (wrap64 (-(rd x9_4 x19_4)))))) ?hg ?ho ?hn ?hr ?_; (case ho => rfl); (case hg => rfl); (case hn => rfl); (case hr => first | (go_simp; done) | (go_simp; rfl)); intro w50 hw; have hg : wr.grownBy w50 (some go47) := (by rw [hw]; exact HP49.2); have hp_ : Kd.R (Kd.int .i64) 3 w50 w.heap.size (fun _ => True) (.slice (some ⟨go47, 0, none⟩) x9_4.length co48) y124 := (by rw [hw, Ny124.out]; exact HP49.1); clear HP49; have n0_ := Aside0.mk (hp_); have n1_ := Aside0.mk ((by rw [hw]; exact below_set (HB.out) GB47.out : Below w.heap.size w w50)); clear HO_9; clear HB; have HO_9 := n0_; have HB := n1_; clear n0_ n1_; clear hg hw hp_)); try go_wp2_with (first | ((with_reducible refine gate_store (t := 3) (p := 129) rfl ?_); (try (rw [drewN_self wr]; generalize hq_ : World.drewN wr _ = wr; have n0_ := Aside0.mk (Kd.R_at hq_ HO_9.out); have n1_ := Aside0.mk (below_at hq_ HB.out); clear hq_ HO_9 HB; have HO_9 := n0_; have HB := n1_; clear n0_ n1_; (try (have HP49 := Kd.R_putg HO_9.out (x19_4 : Int) (wrap64 (-(rd x9_4 x19_4))))))); refine store_event (t := 3) (p := 129) (v := ?vo_w50) (w1 := (wr.setCell ⟨go47, (x19_4 : Int).toNat, none⟩ (.int .i64 (wrap64 (-(rd x9_4 x19_4)))))) ?hg ?ho ?hn ?hr ?_; (case ho => rfl); (case hg => rfl); (case hn => rfl); (case hr => first | (go_simp; done) | (go_simp; rfl)); intro w50 hw; have hg : wr.grownBy w50 (some go47) := (by rw [hw]; exact HP49.2); have hp_ : Kd.R (Kd.int .i64) 3 w50 w.heap.size (fun _ => True) (.slice (some ⟨go47, 0, none⟩) x9_4.length co48) y124 := (by rw [hw, Ny124.out]; exact HP49.1); clear HP49; have n0_ := Aside0.mk (hp_); have n1_ := Aside0.mk ((by rw [hw]; exact below_set (HB.out) GB47.out : Below w.heap.size w w50)); clear HO_9; clear HB; have HO_9 := n0_; have HB := n1_; clear n0_ n1_; clear hg hw hp_)))
                 go_roundg k4
                 case measure => have := HJ4.out; have := HK2.out; have := HK3.out; have := HK4.out; omega
                 case rel => exact ⟨(y124), (wrap64 (x19_4 + 1)), pbb2_0, H', ⟨prr2_5⟩, ⟨prr2_4⟩, ⟨pbb2_2⟩⟩
                ·rw [if_neg c46] at H; exact absurd H (by simp)
               ·rw [if_neg c45] at H; have c45b0 : decide (a0 < 0) = false := decide_eq_false c45; clear c45; simp only [Option.some.injEq, Prod.mk.injEq] at H; obtain ⟨rfl, rfl⟩ := H; obtain ⟨Ao51, co51, eo51⟩ := Kd.R_slice HO_9.out; subst eo51
                go_wp2
                repeat (go_quiet (fail); try go_wp2)
                go_ret2
                exact ⟨_, pbb2_6, prr2_4, pbb2_2⟩
              ·rw [if_neg c44] at H; have c44b0 : decide (x19_4 < (x9_4.length : Int)) = false := decide_eq_false c44; clear c44; simp only [Option.some.injEq, Prod.mk.injEq] at H; obtain ⟨rfl, rfl⟩ := H; obtain ⟨Ao52, co52, eo52⟩ := Kd.R_slice HO_9.out; subst eo52
               go_wp2
               repeat (go_quiet (fail); try go_wp2)
               go_ret2
               exact ⟨_, pbb2_6, prr2_4, pbb2_2⟩
     ·rw [if_neg c8] at H; exact absurd H (by simp)
    ·rw [if_neg c7] at H; exact absurd H (by simp)
 ·rw [if_neg c4] at H; have c4b0 : (t102 == 0) = false := beq_eq_false_iff_ne.mpr c4; have c4b1 : (t102 != 0) = true := bne_iff_ne.mpr c4; simp only [Option.some.injEq, Prod.mk.injEq] at H; obtain ⟨rfl, rfl⟩ := H; go_enter Try.func28, Try.ntmps28
  go_wp2_with (first | (go_at_call 41; (with_reducible refine (accountingref08_total.calls k a0 _ _ l1 t101 t102 _ ?side1 ?side2 A3.out).mono ?_); (case side1 => repeat (first | exact HR1.out | (with_reducible refine Kd.C_alloc ?_ _) | (with_reducible refine Kd.C_drewN ?_ _) | (with_reducible refine Kd.C_drew ?_))); (case side2 => exact HC1.out); rintro e w' ⟨rfl, ⟨nd, rfl⟩⟩; (try first | exact ⟨rfl, _, World.drewN_drewN _ _ _⟩ | exact ⟨rfl, _, Eq.trans (World.drewN_drewN _ _ _) (congrArg (World.drewN _) (Nat.add_assoc _ _ _))⟩)))
  repeat (go_quiet (first | (go_at_call 41; (with_reducible refine (accountingref08_total.calls k a0 _ _ l1 t101 t102 _ ?side1 ?side2 A3.out).mono ?_); (case side1 => repeat (first | exact HR1.out | (with_reducible refine Kd.C_alloc ?_ _) | (with_reducible refine Kd.C_drewN ?_ _) | (with_reducible refine Kd.C_drew ?_))); (case side2 => exact HC1.out); rintro e w' ⟨rfl, ⟨nd, rfl⟩⟩; (try first | exact ⟨rfl, _, World.drewN_drewN _ _ _⟩ | exact ⟨rfl, _, Eq.trans (World.drewN_drewN _ _ _) (congrArg (World.drewN _) (Nat.add_assoc _ _ _))⟩))); try go_wp2_with (first | (go_at_call 41; (with_reducible refine (accountingref08_total.calls k a0 _ _ l1 t101 t102 _ ?side1 ?side2 A3.out).mono ?_); (case side1 => repeat (first | exact HR1.out | (with_reducible refine Kd.C_alloc ?_ _) | (with_reducible refine Kd.C_drewN ?_ _) | (with_reducible refine Kd.C_drew ?_))); (case side2 => exact HC1.out); rintro e w' ⟨rfl, ⟨nd, rfl⟩⟩; (try first | exact ⟨rfl, _, World.drewN_drewN _ _ _⟩ | exact ⟨rfl, _, Eq.trans (World.drewN_drewN _ _ _) (congrArg (World.drewN _) (Nat.add_assoc _ _ _))⟩))))
  go_ret2
  exact ⟨_, pbb2_6, pbb8_0, pbb2_2⟩
end Go.Proofs.Ytadognlkefhoiaa.M
end
section
namespace Go.Proofs.Ytadognlkefhoiaa.M
open Go.RowKit Go.Proofs.YtadognlkefhoiaaW.PrintWords Dv
set_option linter.unusedVariables false
theorem accountingref08_total.go1 : ∀ (B A : List Int) (s i : Int), i = (A.length : Int) → (A ++ B).length < 1000000 → 0 ≤ s → s ≤ 1000000000000000 → (∀ x ∈ B, 0 ≤ x ∧ x ≤ 9223372036854775807) → Ev (fun k => accountingref08_total.l1 k (A ++ B) s i) (sumFrom s B)
  | [], A, s, i, hi, hs, h0, h1, hB => by
    refine Ev.succ ?_; have g : ¬ i < ((A ++ []).length : Int) := by simp; omega
    simp only [accountingref08_total.l1, if_neg g, sumFrom, List.sum_nil, Int.add_zero, if_neg (show ¬ s > 1000000000000000 by omega)]
    split
    · exact Ev.const _
    · exact Ev.const _
  | x :: B, A, s, i, hi, hs, h0, h1, hB => by
    simp only [List.length_append, List.length_cons] at hs; have g1 : 0 ≤ i := by omega
    have g2 : i < ((A ++ x :: B).length : Int) := by simp; omega
    have r := rd_at A x B i hi; have e : wrap64 (i + 1) = i + 1 := w64 (by omega) (by omega); have hx := hB x (by simp); have e2 : wrap64 (1000000000000000 - s) = 1000000000000000 - s := w64 (by omega) (by omega); have hBs := sum_nonneg B (fun y hy => (hB y (by simp [hy])).1); refine Ev.succ ?_
    by_cases hc : x > 1000000000000000 - s
    · simp only [accountingref08_total.l1, if_pos g1, if_pos g2, r, e2, if_pos hc]; have : sumFrom s (x :: B) = (0, 4) := by unfold sumFrom; rw [List.sum_cons, if_pos (by omega)]
      rw [this]; exact Ev.const _
    · have e3 : wrap64 (s + x) = s + x := w64 (by omega) (by omega); simp only [accountingref08_total.l1, if_pos g1, if_pos g2, r, e2, if_neg hc, e, e3]; have ih := accountingref08_total.go1 B (A ++ [x]) (s + x) (i + 1) (by simp; omega) (by simp only [List.length_append, List.length_cons, List.length_nil]; omega) (by omega) (by omega) (fun y hy => hB y (by simp [hy])); have : sumFrom s (x :: B) = sumFrom (s + x) B := by unfold sumFrom; rw [List.sum_cons, Int.add_assoc]
      rw [this]; simpa using ih
theorem accountingref08_total.go0 (L : List Int) (hL : ∀ x ∈ L, x ≤ 9223372036854775807) (hs : L.length < 1000000) : ∀ (B A : List Int) (i : Int), L = A ++ B → i = (A.length : Int) → (∀ x ∈ A, 0 ≤ x) → Ev (fun k => accountingref08_total.l0 k L i) (if ∃ x ∈ B, x < 0 then (0, 2) else sumFrom 0 L)
  | [], A, i, he, hi, hA => by
    refine Ev.succ ?_; have g : ¬ i < (L.length : Int) := by subst he; simp; omega
    simp only [accountingref08_total.l0, if_neg g]; have := accountingref08_total.go1 L [] 0 0 rfl (by simpa using hs) (by omega) (by omega) (fun x hx => ⟨by subst he; exact hA x (by simpa using hx), hL x hx⟩)
    simpa using this
  | x :: B, A, i, he, hi, hA => by
    have hl : (L.length : Int) = A.length + B.length + 1 := by subst he; simp; omega
    have g1 : 0 ≤ i := by omega
    have g2 : i < (L.length : Int) := by omega
    have r : rd L i = x := by subst he; exact rd_at A x B i hi
    have e : wrap64 (i + 1) = i + 1 := w64 (by omega) (by omega); refine Ev.succ ?_
    by_cases hx : x < 0
    · simp only [accountingref08_total.l0, if_pos g1, if_pos g2, r, if_pos hx]; rw [if_pos ⟨x, by simp, hx⟩]; exact Ev.const _
    · simp only [accountingref08_total.l0, if_pos g1, if_pos g2, r, if_neg hx, e]
      have ih := accountingref08_total.go0 L hL hs B (A ++ [x]) (i + 1) (by simp [he]) (by simp; omega) (fun y hy => by
        rcases List.mem_append.1 hy with h | h
        · exact hA y h
        · rw [List.mem_singleton.1 h]; omega)
      have : (∃ y ∈ x :: B, y < 0) ↔ ∃ y ∈ B, y < 0 := by simp [hx]
      simp only [this]; exact ih
theorem accountingref08_Shares.neg (a : Int) (ha : a < 0) : ∀ (B A : List Int) (i : Int), i = (A.length : Int) → (A ++ B).length < 1000000 → (∀ v ∈ B, 0 ≤ v ∧ v ≤ 2000000000000000) → Ev (fun k => accountingref08_Shares.l3 k a (A ++ B) i) (A ++ B.map (fun x => -x), 0)
  | [], A, i, hi, hs, hB => by
    refine Ev.succ ?_; have g : ¬ i < ((A ++ []).length : Int) := by simp; omega
    simp only [accountingref08_Shares.l3, if_neg g]
    simpa using Ev.const _
  | x :: B, A, i, hi, hs, hB => by
    simp only [List.length_append, List.length_cons] at hs; have g1 : 0 ≤ i := by omega
    have g2 : i < ((A ++ x :: B).length : Int) := by simp; omega
    have r := rd_at A x B i hi; have hx := hB x (by simp); have e : wrap64 (i + 1) = i + 1 := w64 (by omega) (by omega); have e2 : wrap64 (-x) = -x := w64 (by omega) (by omega); refine Ev.succ ?_; simp only [accountingref08_Shares.l3, if_pos ha, if_pos g1, if_pos g2, r, e, e2, set_at A x (-x) B i hi]; have ih := accountingref08_Shares.neg a ha B (A ++ [-x]) (i + 1) (by simp; omega) (by simp only [List.length_append, List.length_cons, List.length_nil]; omega) (fun z hz => hB z (by simp [hz]))
    simpa using ih
theorem accountingref08_Shares.best (a : Int) (r P R Y1 Z2 : List Int) (z : Int) (left : Int) (X : List Int × Int) (hn : r.length < 1000) (hr : ∀ x ∈ r, 0 ≤ x) (hRl : R.length = r.length) (hPl : P.length = r.length) (hZ : (Y1 ++ z :: Z2).Perm (idx r.length)) (hS : (Y1 ++ z :: Z2).Pairwise (rOrd r))
    (hR : ∀ i : Int, 0 ≤ i → i < r.length → rd R i = if i ∈ Y1 then -1 else rd r i)
    (hX : Ev (fun k => accountingref08_Shares.l1 k a (P.set z.toNat (wrap64 (rd P z + 1))) (R.set z.toNat (-1)) (wrap64 (left - 1))) X) :
    ∀ (d : Nat) (b i : Int), i + d = r.length → 0 ≤ i → (z < i ∨ z = 0 → b = z) → (¬ (z < i ∨ z = 0) → 0 ≤ b ∧ b < z) → Ev (fun k => accountingref08_Shares.l2 k a P R left b i) X := by
  have hz : 0 ≤ z ∧ z < r.length := (mem_idx _ _).1 (hZ.mem_iff.1 (by simp)); have nd : (Y1 ++ z :: Z2).Nodup := List.Pairwise.imp (S := fun x y => x ≠ y) (fun {x y} h e => (rOrd.tot r).irr x (by rw [← e] at h; exact h)) hS
  have hzY : z ∉ Y1 := fun h => by
    have := (List.nodup_append.1 nd).2.2 z h z (by simp); exact this rfl
  have rz : rd R z = rd r z := by rw [hR z hz.1 hz.2, if_neg hzY]
  have rz0 : 0 ≤ rd r z := hr _ (rd_mem' r z hz.1 hz.2)
  have wh : ∀ i : Int, 0 ≤ i → i < r.length → i ∈ Y1 ∨ i = z ∨ (i ∉ Y1 ∧ rOrd r z i) := fun i h0 h1 => by
    have := hZ.mem_iff.2 ((mem_idx r.length i).2 ⟨h0, h1⟩)
    rcases List.mem_append.1 this with h | h
    · exact .inl h
    · rcases List.mem_cons.1 h with h | h
      · exact .inr (.inl h)
      · refine .inr (.inr ⟨fun k => ?_, ?_⟩)
        · exact (List.nodup_append.1 nd).2.2 i k i (by simp [h]) rfl
        · exact (List.pairwise_cons.1 (List.pairwise_append.1 hS).2.1).1 i h
  intro d
  induction d with
  | zero =>
    intro b i hd hi h1 h2; have hb : b = z := h1 (by omega); subst hb; refine Ev.succ ?_; have g : ¬ i < (R.length : Int) := by omega
    have g2 : b < (P.length : Int) := by omega
    have g3 : b < (R.length : Int) := by omega
    simp only [accountingref08_Shares.l2, if_neg g, if_pos hz.1, if_pos g2, if_pos g3]; exact hX
  | succ d ih =>
    intro b i hd hi h1 h2; have g : i < (R.length : Int) := by omega
    have g1 : 0 ≤ b := by
      by_cases c : z < i ∨ z = 0
      · rw [h1 c]; exact hz.1
      · exact (h2 c).1
    have g2 : b < (R.length : Int) := by
      by_cases c : z < i ∨ z = 0
      · rw [h1 c]; omega
      · have := (h2 c).2; omega
    have e : wrap64 (i + 1) = i + 1 := w64 (by omega) (by omega); refine Ev.succ ?_; simp only [accountingref08_Shares.l2, if_pos g, if_pos hi, if_pos g1, if_pos g2, e]
    by_cases c : z < i ∨ z = 0
    · have hb := h1 c; subst hb
      have ng : ¬ rd R i > rd R b := by
        rw [rz, hR i hi (by omega)]
        rcases wh i hi (by omega) with w | w | w
        · rw [if_pos w]; omega
        · subst w; rw [if_neg hzY]; omega
        · rw [if_neg w.1]; have := w.2
          unfold rOrd at this
          omega
      simp only [if_neg ng]; exact ih b (i + 1) (by omega) (by omega) (fun _ => rfl) (fun k => by omega)
    · have hb := h2 c
      by_cases ci : i = z
      · subst ci
        have yg : rd R i > rd R b := by
          rw [rz, hR b hb.1 (by omega)]
          rcases wh b hb.1 (by omega) with w | w | w
          · rw [if_pos w]; omega
          · omega
          · rw [if_neg w.1]; have := w.2
            unfold rOrd at this
            omega
        simp only [if_pos yg]; exact ih i (i + 1) (by omega) (by omega) (fun _ => rfl) (fun k => by omega)
      · by_cases yg : rd R i > rd R b
        · simp only [if_pos yg]; exact ih i (i + 1) (by omega) (by omega) (fun k => by omega) (fun k => by omega)
        · simp only [if_neg yg]; exact ih b (i + 1) (by omega) (by omega) (fun k => by omega) (fun k => by omega)
theorem accountingref08_Shares.pick (a : Int) (r : List Int) (X : List Int × Int) (hn : r.length < 1000) (hr : ∀ x ∈ r, 0 ≤ x) : ∀ (Y2 Y1 Z3 P R : List Int) (left : Int), R.length = r.length → P.length = r.length → (Y1 ++ Y2 ++ Z3).Perm (idx r.length) → (Y1 ++ Y2 ++ Z3).Pairwise (rOrd r) → left = (Y2.length : Int) →
    (∀ i : Int, 0 ≤ i → i < r.length → rd R i = if i ∈ Y1 then -1 else rd r i) → (∀ v ∈ P, 0 ≤ v ∧ v + Y2.length ≤ 9000000000000000000) → Ev (fun k => accountingref08_Shares.l3 k a (inc P Y2) 0) X → Ev (fun k => accountingref08_Shares.l1 k a P R left) X
  | [], Y1, Z3, P, R, left, hRl, hPl, hZ, hS, hl, hR, hP, hX => by
    refine Ev.succ ?_; have g : ¬ left > 0 := by simp at hl; omega
    simp only [accountingref08_Shares.l1, if_neg g]; exact hX
  | z :: Y2, Y1, Z3, P, R, left, hRl, hPl, hZ, hS, hl, hR, hP, hX => by
    simp only [List.length_cons] at hl hP; have g : left > 0 := by omega
    have hZ' : (Y1 ++ z :: (Y2 ++ Z3)).Perm (idx r.length) := by simpa using hZ
    have hS' : (Y1 ++ z :: (Y2 ++ Z3)).Pairwise (rOrd r) := by simpa using hS
    have hz : 0 ≤ z ∧ z < r.length := (mem_idx _ _).1 (hZ'.mem_iff.1 (by simp))
    have e : wrap64 (left - 1) = left - 1 := w64 (by
      omega) (by
      have : (Y1 ++ z :: Y2 ++ Z3).length = r.length := by rw [hZ.length_eq, idx_length]
      simp only [List.length_append, List.length_cons] at this
      omega)
    have hm := hP _ (rd_mem' P z hz.1 (by omega)); have e2 : wrap64 (rd P z + 1) = rd P z + 1 := w64 (by omega) (by omega); refine Ev.succ ?_; simp only [accountingref08_Shares.l1, if_pos g]; refine accountingref08_Shares.best a r P R Y1 (Y2 ++ Z3) z left X hn hr hRl hPl hZ' hS' hR ?_ r.length 0 0 (by omega) (by omega) (fun k => by omega) (fun k => by omega); rw [e, e2]; refine accountingref08_Shares.pick a r X hn hr Y2 (Y1 ++ [z]) Z3 _ _ (left - 1) (by simpa using hRl) (by simpa using hPl) (by simpa using hZ) (by simpa using hS) (by omega) (fun i h0 h1 => ?_) (fun v hv => ?_) hX
    · rw [rd_set R z i _ hz.1 (by omega) h0, hR i h0 h1]
      by_cases c : i = z
      · subst c; simp
      · simp [c]
    · rcases mem_set' hv with rfl | hv
      · omega
      · have := hP v hv; omega
theorem accountingref08_Shares.go0 (a s t : Int) (h0 : 0 ≤ s) (h1 : s ≤ 1000000000000000) (h4 : 0 < t) (ht : t ≤ 1000000000000000) (X : List Int × Int) : ∀ (W2 W1 : List Int) (i left : Int), i = (W1.length : Int) → (W1 ++ W2).length ≤ 1000 → (∀ w ∈ W2, 0 ≤ w ∧ w ≤ t) → left ≤ 1000000000000000 → -1000000000000000 * i ≤ left →
    Ev (fun k => accountingref08_Shares.l1 k a (qs s t (W1 ++ W2)) (rs s t (W1 ++ W2)) (left - (qs s t W2).sum)) X →
    Ev (fun k => accountingref08_Shares.l0 k a (W1 ++ W2) t s (qs s t W1 ++ List.replicate W2.length 0) (rs s t W1 ++ List.replicate W2.length 0) left i) X
  | [], W1, i, left, hi, hs, hw, l1, l2, hX => by
    refine Ev.succ ?_; have g : ¬ i < ((W1 ++ []).length : Int) := by simp; omega
    simp only [accountingref08_Shares.l0, if_neg g]
    simpa [qs, rs] using hX
  | w :: W2, W1, i, left, hi, hs, hw, l1, l2, hX => by
    simp only [List.length_append, List.length_cons] at hs; have hw0 := hw w (by simp); have g1 : 0 ≤ i := by omega
    have g2 : i < ((W1 ++ w :: W2).length : Int) := by simp; omega
    have r := rd_at W1 w W2 i hi; obtain ⟨m1, m2, m3⟩ := mdv_down h0 h1 hw0.1 hw0.2 h4; have M := accountingref02_MulDiv.eq (a := s) (b := w) (c := t) 1 (by unfold inI; omega) (by unfold inI; omega) (by unfold inI; omega); have D := accountingref02_Mod.eq (a := s) (b := w) (c := t) (by unfold inI; omega) (by unfold inI; omega) (by unfold inI; omega); rw [m1] at M; rw [modv_down h4] at D; have e : wrap64 (i + 1) = i + 1 := w64 (by omega) (by omega); have e2 : wrap64 (left - s * w / t) = left - s * w / t := w64 (by omega) (by omega); have lq : (qs s t W1).length = W1.length := by simp [qs]
    have lr : (rs s t W1).length = W1.length := by simp [rs]
    have g3 : i < ((qs s t W1 ++ List.replicate (w :: W2).length (0 : Int)).length : Int) := by simp [lq]; omega
    have g4 : i < ((rs s t W1 ++ List.replicate (w :: W2).length (0 : Int)).length : Int) := by simp [lr]; omega
    refine Ev.succ ?_; simp only [accountingref08_Shares.l0, if_pos g1, if_pos g2, r]; refine Ev.bind M ?_; refine Ev.bind D ?_
    have s1 : (qs s t W1 ++ List.replicate (w :: W2).length (0 : Int)).set i.toNat (s * w / t) = qs s t (W1 ++ [w]) ++ List.replicate W2.length 0 := by
      rw [List.length_cons, List.replicate_succ, set_at _ _ _ _ _ (by rw [lq]; exact hi), qs_snoc]; simp
    have s2 : (rs s t W1 ++ List.replicate (w :: W2).length (0 : Int)).set i.toNat (s * w % t) = rs s t (W1 ++ [w]) ++ List.replicate W2.length 0 := by
      rw [List.length_cons, List.replicate_succ, set_at _ _ _ _ _ (by rw [lr]; exact hi), rs_snoc]; simp
    have s3 : rd (qs s t (W1 ++ [w]) ++ List.replicate W2.length 0) i = s * w / t := by
      rw [qs_snoc, List.append_assoc]; exact rd_at _ _ _ _ (by rw [lq]; exact hi)
    simp only [if_pos g3, if_pos g4, s1, s2, Option.bind_some, s3, e, e2]
    have ih := accountingref08_Shares.go0 a s t h0 h1 h4 ht X W2 (W1 ++ [w]) (i + 1) (left - s * w / t) (by simp; omega) (by simp only [List.length_append, List.length_cons, List.length_nil]; omega) (fun z hz => hw z (by simp [hz])) (by omega) (by omega) (by
      have e5 : (qs s t (w :: W2)).sum = s * w / t + (qs s t W2).sum := by simp [qs]
      have e6 : left - s * w / t - (qs s t W2).sum = left - (qs s t (w :: W2)).sum := by omega
      rw [e6]
      simpa using hX)
    simpa using ih
theorem accountingref08_Shares.j0_eq {a s : Int} {l : List Int} (h : Fit s l) (X : List Int × Int) (hX : Ev (fun k => accountingref08_Shares.l3 k a (pos s l) 0) X) : Ev (fun k => accountingref08_Shares.j0 k a l l.sum s) X := by
  have g1 : (0 : Int) ≤ (l.length : Int) := by omega
  have g2 : (l.length : Int).toNat ≤ 35184372088832 := by have := h.n; omega
  have hn := h.n; have lb := lf_bounds s l h.t0; have hl : (rk (rs s l.sum l)).length = l.length := by rw [h.rk.1.length_eq, idx_length]
  refine Ev.succ ?_; simp only [accountingref08_Shares.j0, if_pos g1, if_pos g2]; have hrl : (rs s l.sum l).length = l.length := by simp [rs]
  have hql : (qs s l.sum l).length = l.length := by simp [qs]
  have := accountingref08_Shares.go0 a s l.sum h.s0 h.s1 h.t0 h.t1 X l [] 0 s rfl (by simp; omega) h.w h.s1 (by have := h.s0; omega) (by
    have hk := h.rk; have he : rk (rs s l.sum l) = (rk (rs s l.sum l)).take (lf s l.sum l).toNat ++ (rk (rs s l.sum l)).drop (lf s l.sum l).toNat := (List.take_append_drop _ _).symm; refine accountingref08_Shares.pick a (rs s l.sum l) X (by omega) (fun x hx => (rs_bounds s l.sum h.t0 l x hx).1) ((rk (rs s l.sum l)).take (lf s l.sum l).toNat) [] ((rk (rs s l.sum l)).drop (lf s l.sum l).toNat) _ _ _ rfl (by simp [qs, rs]) ?_ ?_ ?_ (fun i _ _ => by simp) (fun v hv => ?_) hX
    · rw [List.nil_append, ← he, hrl]; exact hk.1
    · rw [List.nil_append, ← he]; exact hk.2
    · rw [List.length_take, hl]; show lf s l.sum l = _
      omega
    · have := qs_bounds h.s0 h.s1 h.t0 l h.w v hv; have : ((rk (rs s l.sum l)).take (lf s l.sum l).toNat).length ≤ 200 := by simp; omega
      omega)
  simpa [qs, rs] using this
theorem accountingref08_total.eq {a : Int} {l : List Int} (hl : l.length < 100000000000000) (hw : ∀ x ∈ l, x ≤ 9223372036854775807) : Ev (fun k => accountingref08_total.f k a l) (if shErr a l = 0 then l.sum else 0, shErr a l) := by
  by_cases c1 : l.length > 200
  · have c1' : (l.length : Int) > 200 := by omega
    have : shErr a l = 9 := by unfold shErr; rw [if_pos c1]
    rw [this]; simp only [accountingref08_total.f, if_pos c1']; exact Ev.const _
  · have c1' : ¬ (l.length : Int) > 200 := by omega
    have J : ∀ b, b = (decide (a > 1000000000000000 ∨ a < -1000000000000000)) → Ev (fun k => accountingref08_total.j0 k l b) (if shErr a l = 0 then l.sum else 0, shErr a l) := by
      intro b hb; subst hb; refine Ev.succ ?_
      by_cases c2 : a > 1000000000000000 ∨ a < -1000000000000000
      · have : shErr a l = 4 := by unfold shErr; rw [if_neg c1, if_pos c2]
        rw [this]; simp only [accountingref08_total.j0, decide_eq_true c2, if_true]; exact Ev.const _
      · simp only [accountingref08_total.j0, decide_eq_false c2, Bool.false_eq_true, if_false]; have T := accountingref08_total.go0 l hw (by omega) l [] 0 rfl rfl (by simp)
        have e : (if ∃ x ∈ l, x < 0 then ((0 : Int), (2 : Int)) else sumFrom 0 l) = (if shErr a l = 0 then l.sum else 0, shErr a l) := by
          rw [sumFrom_zero]
          unfold shErr
          rw [if_neg c1, if_neg c2]
          by_cases c3 : ∃ x ∈ l, x < 0
          · simp [if_pos c3]
          · simp only [if_neg c3]
            by_cases c4 : l.sum > 1000000000000000
            · simp [if_pos c4]
            · simp only [if_neg c4]
              by_cases c5 : l.sum = 0
              · simp [if_pos c5]
              · simp [if_neg c5]
        rw [e] at T; exact T
    by_cases c2 : a > 1000000000000000
    · simp only [accountingref08_total.f, if_neg c1', if_pos c2]; exact J true (by simp [c2])
    · simp only [accountingref08_total.f, if_neg c1', if_neg c2]; exact J _ (by simp [c2])
theorem accountingref08_Shares.eq {a : Int} {l : List Int} (hl : l.length < 100000000000000) (hw : ∀ x ∈ l, x ≤ 9223372036854775807) : Ev (fun k => accountingref08_Shares.f k a l) (if shErr a l = 0 then shr a l else [], shErr a l) := by
  unfold accountingref08_Shares.f
  refine Ev.bind (accountingref08_total.eq hl hw) ?_
  by_cases z : shErr a l = 0
  · have F := shErr_le z; simp only [if_pos z]
    have hb : -1000000000000000 ≤ a ∧ a ≤ 1000000000000000 := by
      have := F.s0; have := F.s1
      split at F <;> omega
    unfold shr
    by_cases c6 : a < 0
    · simp only [if_pos c6] at F ⊢; rw [w64 (n := -a) (by omega) (by omega)]; refine accountingref08_Shares.j0_eq F _ ?_
      have hlen : ((pos (-a) l).length : Int) ≤ 200 := by
        have := F.n
        unfold pos; rw [inc_length]; simp [qs]; omega
      have := accountingref08_Shares.neg a c6 (pos (-a) l) [] 0 rfl (by simp; omega) (pos_bounds F); rw [z]
      simpa using this
    · simp only [if_neg c6] at F ⊢; refine accountingref08_Shares.j0_eq F _ (Ev.succ ?_); rw [z]
      by_cases c7 : (0 : Int) < ((pos a l).length : Int)
      · simp only [accountingref08_Shares.l3, if_pos c7, if_neg c6]; exact Ev.const _
      · simp only [accountingref08_Shares.l3, if_neg c7]; exact Ev.const _
  · simp only [if_neg z]; exact Ev.const _
end Go.Proofs.Ytadognlkefhoiaa.M
end
section
namespace Go.Proofs.Ytadognlkefhoiaa.M
open Go.RowKit Go.Proofs.YtadognlkefhoiaaW.PrintWords Go.Proofs.YtadognlkefhoiaaW.PrintLast Go.Proofs.YtadognlkefhoiaaW.PrintMore
attribute [local go_sem] max2_int min2_int max_two min_two max_three min_three max_four min_four
set_option linter.unusedVariables false
set_option linter.unusedSimpArgs false
def accountingref30_straight.l0 : Nat → List Int → Int → Int → Int → Int → Int → Int → Int → Int → List Int → Option (List Int)
  | 0, _, _, _, _, _, _, _, _, _, _ => none
  | k + 1, x3, x4, x5, x102000, x102001, x102002, x102003, x102004, x102005, x102006 => if x5 ≤ x102003 then ((accountingref02_MulDiv.f k (wrap64 (x102001 - x102002)) x5 x102003 4).bind fun bt102 => (if x3.length < 17592186044416 then (accountingref30_straight.l0 k (x3 ++ [wrap64 (bt102.1 - x4)]) bt102.1 (wrap64 (x5 + 1)) x102000 x102001 x102002 x102003 x102004 x102005 x102006) else (none))) else (some x3)
def accountingref30_straight.f (k : Nat) (a0_0 : Int) (a0_1 : Int) (a0_2 : Int) (a0_3 : Int) (a0_4 : Int) (a0_5 : Int) (l0_6 : List Int) : Option (List Int) := accountingref30_straight.l0 k ([] : List Int) 0 1 a0_0 a0_1 a0_2 a0_3 a0_4 a0_5 l0_6
set_option maxHeartbeats 8000000 in
set_option maxRecDepth 100000 in
theorem accountingref30_straight.calls (k : Nat) (a0_0 : Int) (a0_1 : Int) (a0_2 : Int) (a0_3 : Int) (a0_4 : Int) (a0_5 : Int) (A0_6 : Option Addr) (c0_6 : Nat) (l0_6 : List Int) (r : List Int) (w : World) (hr0_6 : Kd.C (Kd.int .i64) w A0_6 l0_6.length l0_6) (hc0_6 : l0_6.length ≤ c0_6) (h : accountingref30_straight.f k a0_0 a0_1 a0_2 a0_3 a0_4 a0_5 l0_6 = some r) :
    Calls Try.prog 26 #[.agg #[.int .i64 a0_0, .int .i64 a0_1, .int .i64 a0_2, .int .i64 a0_3, .int .i64 a0_4, .int .i64 a0_5, .slice A0_6 l0_6.length c0_6]] w fun e w' => ∃ v0_ : Value, e = .returned (v0_) ∧ Kd.R (Kd.int .i64) 3 w' w.heap.size (fun _ => True) v0_ r ∧ Below w.heap.size w w' := by
 have hu26 := Try.underlying26; have hu3 := Try.underlying3; have HR0_6 := Aside0.mk hr0_6; have HC0_6 := Aside0.mk hc0_6; clear hr0_6 hc0_6; have HB := Aside0.mk (Below.refl w.heap.size w); have H : (accountingref30_straight.l0 k ([] : List Int) 0 1 a0_0 a0_1 a0_2 a0_3 a0_4 a0_5 l0_6) = some r := h; clear h; have H' := Aside0.mk H; clear H; go_enter Try.func26, Try.ntmps26
 go_wp2_with (first | ((with_reducible refine gate_dst (N := 1) rfl ?_); refine box_event ?hg (N := 1) ?hd (cs := #[.int .i64 a0_0, .int .i64 a0_1, .int .i64 a0_2, .int .i64 a0_3, .int .i64 a0_4, .int .i64 a0_5, .slice A0_6 l0_6.length c0_6]) (t := 26) ?hr ?_; (case hd => rfl); (case hg => rfl); (case hr => first | (go_simp; done) | (go_simp; rfl)); intro gb101 hg w2 hbox hb; have n0_ := Aside0.mk (below_step pbb2_2 hb); have n1_ := Aside0.mk (hbox); have n2_ := Aside0.mk ((pbb2_3 : w.heap.size ≤ gb101)); have n3_ := Aside0.mk ((pbb2_3 : w.heap.size ≤ gb101)); clear HB; have HB := n0_; have BK101 := n1_; have GW101 := n2_; have GE101 := n3_; clear n0_ n1_ n2_ n3_; clear hb hbox hg))
 go_loopg [3, 4, 5] k (fun kq v3 v4 v5 w' => ∃ (x3_1 : List Int) (x4_1 : Int) (x5_1 : Int), v4 = .int .i64 x4_1 ∧ v5 = .int .i64 x5_1 ∧ Aside0 (accountingref30_straight.l0 kq x3_1 x4_1 x5_1 a0_0 a0_1 a0_2 a0_3 a0_4 a0_5 l0_6 = some r) ∧ Aside0 (kq ≤ k) ∧ Aside0 (Kd.R (Kd.int .i64) 3 w' w.heap.size (fun _ => True) v3 x3_1) ∧ Aside0 (w'.heap[gb101]? = some (.cells #[.int .i64 a0_0, .int .i64 a0_1, .int .i64 a0_2, .int .i64 a0_3, .int .i64 a0_4, .int .i64 a0_5, (.slice A0_6 l0_6.length c0_6)] 26 (0, 0))) ∧ Aside0 (Below w.heap.size w w'))
 case atStart => exact ⟨(([] : List Int)), (0), (1), pbb2_0, pbb2_0, H', ⟨Nat.le_refl _⟩, ⟨pbb8_0⟩, ⟨pbb2_4⟩, ⟨pbb2_5⟩⟩
 case round =>
  clear H'; (try clear c2); (try clear p2); obtain ⟨x3_1, x4_1, x5_1, rfl, rfl, HA, HK1, HO_3, BK101, HB⟩ := hrel
  cases gk with
  | zero => exact absurd HA.out (by simp [accountingref30_straight.l0])
  | succ k1 =>
   have H := HA.out; clear HA; simp only [accountingref30_straight.l0] at H
   by_cases c3 : x5_1 ≤ a0_3
   ·rw [if_pos c3] at H; have c3b0 : decide (x5_1 ≤ a0_3) = true := decide_eq_true c3; clear c3; replace H := Option.bind_eq_some_iff.mp H; obtain ⟨⟨t102, t103⟩, A40, H⟩ := H; replace H : (if x3_1.length < 17592186044416 then (accountingref30_straight.l0 k1 (x3_1 ++ [wrap64 (t102 - x4_1)]) t102 (wrap64 (x5_1 + 1)) a0_0 a0_1 a0_2 a0_3 a0_4 a0_5 l0_6) else (none)) = some r := H; have A4 := Aside0.mk A40; clear A40
    by_cases c5 : x3_1.length < 17592186044416
    ·rw [if_pos c5] at H; have LMc5 := Aside0.mk c5; clear c5; obtain ⟨y104, hy104⟩ : ∃ y_ : List Int, y_ = (x3_1 ++ [wrap64 (t102 - x4_1)]) := ⟨_, rfl⟩; replace H : (accountingref30_straight.l0 k1 y104 t102 (wrap64 (x5_1 + 1)) a0_0 a0_1 a0_2 a0_3 a0_4 a0_5 l0_6) = some r := by first | (rw [hy104]; with_reducible exact H) | (have H2_ := (Option.bind_some _ _).symm.trans H; rw [hy104]; with_reducible exact H2_) | (have H2_ := (Option.bind_some _ _).symm.trans H; with_reducible exact H2_) | with_reducible exact H | (rw [hy104]; exact H) | exact H
     have Ny104 := Aside0.mk hy104; clear hy104; have H' := Aside0.mk H; clear H; have hcz6_0 : wr.cell? ⟨gb101, 0, none⟩ = some (.int .i64 a0_0) := (blk_cell BK101.out 0).trans rfl; have hcz6_1 : wr.cell? ⟨gb101, 1, none⟩ = some (.int .i64 a0_1) := (blk_cell BK101.out 1).trans rfl; have hcz6_2 : wr.cell? ⟨gb101, 2, none⟩ = some (.int .i64 a0_2) := (blk_cell BK101.out 2).trans rfl; have hcz6_3 : wr.cell? ⟨gb101, 3, none⟩ = some (.int .i64 a0_3) := (blk_cell BK101.out 3).trans rfl; have hcz6_4 : wr.cell? ⟨gb101, 4, none⟩ = some (.int .i64 a0_4) := (blk_cell BK101.out 4).trans rfl; have hcz6_5 : wr.cell? ⟨gb101, 5, none⟩ = some (.int .i64 a0_5) := (blk_cell BK101.out 5).trans rfl; have hcz6_6 : wr.cell? ⟨gb101, 6, none⟩ = some (.slice A0_6 l0_6.length c0_6) := (blk_cell BK101.out 6).trans rfl; have hfz6_0 := blk_frozen BK101.out 0; have hfz6_1 := blk_frozen BK101.out 1; have hfz6_2 := blk_frozen BK101.out 2; have hfz6_3 := blk_frozen BK101.out 3; have hfz6_4 := blk_frozen BK101.out 4; have hfz6_5 := blk_frozen BK101.out 5; have hfz6_6 := blk_frozen BK101.out 6
     go_wp2_with (first | ((with_reducible refine gate_callee (f := 39) rfl ?_); refine goesL_ (some 23) rfl rfl Try.func39 (by kernel_rfl) rfl #[.int .i64 (wrap64 (a0_1 - a0_2)), .int .i64 x5_1, .int .i64 a0_3, .int .i64 4] rfl pbb3_0 ?_; (with_reducible refine (accountingref02_MulDiv.calls k1 (wrap64 (a0_1 - a0_2)) x5_1 a0_3 4 t102 t103 _ A4.out).mono ?_); rintro e w' ⟨rfl, ⟨nd, rfl⟩⟩; refine ⟨_, rfl, ?_⟩) | ((with_reducible refine gate_builtin (b := .append) (xs := #[.tmp 26, .tmp 30]) rfl ?_); at_builtin; refine Kd.R_append (Kd.int .i64) (w0 := w) w.heap.size rfl (.tmp 26) (.tmp 30) 24 3 (.int .i64 0) 8 rfl Try.underlying24 info3 rfl (by decide) (by omega) u3 x3_1 (wrap64 (t102 - x4_1)) [.int .i64 (wrap64 (t102 - x4_1))] (fun _ => True) (fun _ => False) rfl rfl ?aP (fun _ hk => hk.elim) ?aF ?aO ?aB ?aS ?aL ?_; (case aP => exact rfl); (case aB => exact pbb2_5); (case aF => exact (fun _ _ => trivial)); (case aO => exact (by (with_reducible repeat (first | apply Kd.R_alloc | apply Kd.R_drewN | apply Kd.R_drew)); exact HO_3.out)); (case aS => exact (below_size pbb2_5)); (case aL => have := LMc5.out; omega); intro v105 w7 ho hb hg hat; rw [← Ny104.out] at ho; have n0_ := Aside0.mk (blk_grown (g := gb101) (o := .cells #[.int .i64 a0_0, .int .i64 a0_1, .int .i64 a0_2, .int .i64 a0_3, .int .i64 a0_4, .int .i64 a0_5, .slice A0_6 l0_6.length c0_6] 26 (0, 0)) pbb2_4 hg (Kd.R_ne HO_3.out BK101.out (by decide))); have n1_ := Aside0.mk (hb); have n2_ := Aside0.mk (ho); clear BK101; clear HB; clear HO_3; have BK101 := n0_; have HB := n1_; have HO106 := n2_; clear n0_ n1_ n2_; clear ho hb hg hat))
     go_roundg k1
     case measure => have := HK1.out; omega
     case rel => exact ⟨(y104), (t102), (wrap64 (x5_1 + 1)), pbb2_0, pbb2_0, H', ⟨prr1_0⟩, ⟨by (with_reducible repeat (first | apply Kd.R_alloc | apply Kd.R_drewN | apply Kd.R_drew)); exact HO106.out⟩, ⟨pbb2_4⟩, ⟨pbb2_5⟩⟩
    ·rw [if_neg c5] at H; exact absurd H (by simp)
   ·rw [if_neg c3] at H; have c3b0 : decide (x5_1 ≤ a0_3) = false := decide_eq_false c3; clear c3; obtain rfl := Option.some.inj H; have hcz8_0 : wr.cell? ⟨gb101, 0, none⟩ = some (.int .i64 a0_0) := (blk_cell BK101.out 0).trans rfl; have hcz8_1 : wr.cell? ⟨gb101, 1, none⟩ = some (.int .i64 a0_1) := (blk_cell BK101.out 1).trans rfl; have hcz8_2 : wr.cell? ⟨gb101, 2, none⟩ = some (.int .i64 a0_2) := (blk_cell BK101.out 2).trans rfl; have hcz8_3 : wr.cell? ⟨gb101, 3, none⟩ = some (.int .i64 a0_3) := (blk_cell BK101.out 3).trans rfl; have hcz8_4 : wr.cell? ⟨gb101, 4, none⟩ = some (.int .i64 a0_4) := (blk_cell BK101.out 4).trans rfl; have hcz8_5 : wr.cell? ⟨gb101, 5, none⟩ = some (.int .i64 a0_5) := (blk_cell BK101.out 5).trans rfl; have hcz8_6 : wr.cell? ⟨gb101, 6, none⟩ = some (.slice A0_6 l0_6.length c0_6) := (blk_cell BK101.out 6).trans rfl; have hfz8_0 := blk_frozen BK101.out 0; have hfz8_1 := blk_frozen BK101.out 1; have hfz8_2 := blk_frozen BK101.out 2; have hfz8_3 := blk_frozen BK101.out 3; have hfz8_4 := blk_frozen BK101.out 4; have hfz8_5 := blk_frozen BK101.out 5; have hfz8_6 := blk_frozen BK101.out 6
    go_wp2
    go_ret
    exact ⟨_, pbb2_6, by (with_reducible repeat (first | apply Kd.R_alloc | apply Kd.R_drewN | apply Kd.R_drew)); exact HO_3.out, pbb2_5⟩
end Go.Proofs.Ytadognlkefhoiaa.M
end
