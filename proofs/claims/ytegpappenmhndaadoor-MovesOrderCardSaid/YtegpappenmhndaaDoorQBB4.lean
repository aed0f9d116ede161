/- What the claims of this seat share, part 4 of 8: what the program's functions compute. -/
import Derived.Laws.BitsLemmas
import Derived.RowKit
import Derived.Test.YtegpappenmhndaaDoorQBB1
import Derived.Test.YtegpappenmhndaaDoorQBB2
namespace Go.Proofs.YtegpappenmhndaaDoor.M
theorem pbb4_0 {p : Prop} (h : p := by rw [← hq_]; exact (by repeat (first | (with_reducible first | exact HB.out | apply below_alloc | apply pw_below_drewN | apply below_drew1) | exact HB.out))) : p := h
theorem pbb4_1 {p : Prop} (h : p := by repeat (first | (with_reducible first | exact HB.out | apply below_alloc | apply pw_below_drewN | apply below_drew1 | refine below_set ?_ GE105.out) | exact HB.out)) : p := h
theorem pbb4_2 {p : Prop} (h : p := by (with_reducible repeat (first | refine blk_drewN ?_ _ | refine blk_drew ?_ | refine blk_alloc ?_ _)); exact BK105.out) : p := h
theorem pbb4_3 {p : Prop} (h : p := by rw [hg]; exact (below_size (by repeat (first | (with_reducible first | exact HB.out | apply below_alloc | apply pw_below_drewN | apply below_drew1 | refine below_set ?_ GE105.out) | exact HB.out)))) : p := h
theorem pbb4_4 {p : Prop} (h : p := by rw [hg]; exact Nat.ne_of_lt (blk_lt (g := gb105) (o := .cells #[.int .u64 t103, .int .u64 t104] 94 (0, 0)) (by (with_reducible repeat (first | refine blk_drewN ?_ _ | refine blk_drew ?_ | refine blk_alloc ?_ _)); exact BK105.out))) : p := h
theorem pbb4_5 {p : Prop} (h : p := by rw [hg]; exact Nat.ne_of_gt (blk_lt (g := gb105) (o := .cells #[.int .u64 t103, .int .u64 t104] 94 (0, 0)) (by (with_reducible repeat (first | refine blk_drewN ?_ _ | refine blk_drew ?_ | refine blk_alloc ?_ _)); exact BK105.out))) : p := h
theorem pbb4_6 {p : Prop} (h : p := by simp only [putAll, Act.put, List.setIfInBounds_toArray, List.set_cons_zero, List.set_cons_succ]) : p := h
theorem pbb4_7 {p : Prop} (h : p := by (with_reducible repeat (first | refine blk_drewN ?_ _ | refine blk_drew ?_ | refine blk_alloc ?_ _)); exact BK110.out) : p := h
theorem pbb4_8 {p : Prop} (h : p := by repeat (first | (with_reducible first | exact HB.out | apply below_alloc | apply pw_below_drewN | apply below_drew1 | refine below_set ?_ GE105.out | refine below_set ?_ GE110.out) | exact HB.out)) : p := h
theorem pbb4_9 {p : Prop} (h : p := by repeat (first | (with_reducible first | exact HB.out | apply below_alloc | apply pw_below_drewN | apply below_drew1 | refine below_set ?_ GE109.out) | exact HB.out)) : p := h
end Go.Proofs.YtegpappenmhndaaDoor.M
section
namespace Go.Proofs.YtegpappenmhndaaDoor.M.Dv
open Go.RowKit
theorem wrap_u64 (n : Int) : IntKind.u64.wrap n = n % 18446744073709551616 := by simp [IntKind.wrap, IntKind.bits, IntKind.signed]
theorem wraps_u64 (n : Int) (h₀ : 0 ≤ n) (h₁ : n < 2 ^ 64) : IntKind.u64.wrap n = n := by rw [wrap_u64]; omega
def yv (R W : Int) (g : Nat) : Int := R * 2 ^ (64 - g) + W / 2 ^ g
structure Ctx (R W c : Int) : Prop where
 c0 : 0 < c
 c1 : c < 18446744073709551616
 r0 : 0 ≤ R
 r1 : R < c
 w0 : 0 ≤ W
 w1 : W < 18446744073709551616
structure Inv (R W c : Int) (g : Nat) (r q : Int) : Prop where
 le : g ≤ 64
 rr : r = yv R W g % c
 qq : q = yv R W g / c
theorem pow_pos (n : Nat) : (0 : Int) < 2 ^ n := Int.pow_pos (by decide)
theorem half (W : Int) (g : Nat) : W / 2 ^ g = 2 * (W / 2 ^ (g + 1)) + (W / 2 ^ g) % 2 := by
 have h : W / 2 ^ (g + 1) = W / 2 ^ g / 2 := by
  rw [Int.pow_succ, Int.ediv_ediv_of_nonneg (Int.le_of_lt (pow_pos g))]
 rw [h]; omega
theorem yv_step (R W : Int) (g : Nat) (hg : g + 1 ≤ 64) : yv R W g = 2 * yv R W (g + 1) + (W / 2 ^ g) % 2 := by
 unfold yv
 have h1 : 64 - g = (64 - (g + 1)) + 1 := by omega
 rw [h1, Int.pow_succ]; have h2 := half W g; generalize (2 : Int) ^ (64 - (g + 1)) = p at *; have : R * (p * 2) = 2 * (R * p) := by rw [← Int.mul_assoc, Int.mul_comm]
 rw [this]; omega
theorem yv_bound {R W c : Int} (h : Ctx R W c) (g : Nat) (hg : g ≤ 64) : 0 ≤ yv R W g ∧ yv R W g < c * 2 ^ (64 - g) := by
 unfold yv
 have hp := pow_pos g; have hq := pow_pos (64 - g)
 have e : (2 : Int) ^ (64 - g) * 2 ^ g = 18446744073709551616 := by
  rw [← Int.pow_add]; have : 64 - g + g = 64 := by omega
  rw [this]; decide
 have hw0 : 0 ≤ W / 2 ^ g := Int.ediv_nonneg h.w0 (Int.le_of_lt hp)
 have hw1 : W / 2 ^ g < 2 ^ (64 - g) := by
  apply Int.ediv_lt_of_lt_mul hp; rw [e]; exact h.w1
 have hr : R * 2 ^ (64 - g) ≤ (c - 1) * 2 ^ (64 - g) := Int.mul_le_mul_of_nonneg_right (by have := h.r1; omega) (Int.le_of_lt hq); have hr0 : 0 ≤ R * 2 ^ (64 - g) := Int.mul_nonneg h.r0 (Int.le_of_lt hq); have e2 : (c - 1) * 2 ^ (64 - g) = c * 2 ^ (64 - g) - 2 ^ (64 - g) := by rw [Int.sub_mul, Int.one_mul]
 omega
theorem r_bound {R W c : Int} (h : Ctx R W c) {g : Nat} {r q : Int} (i : Inv R W c g r q) : 0 ≤ r ∧ r < c := by
 rw [i.rr]; exact ⟨Int.emod_nonneg _ (by have := h.c0; omega), Int.emod_lt_of_pos _ h.c0⟩
theorem q_bound {R W c : Int} (h : Ctx R W c) {g : Nat} {r q : Int} (i : Inv R W c g r q) : 0 ≤ q ∧ q < 2 ^ (64 - g) := by
 have hb := yv_bound h g i.le; rw [i.qq]; refine ⟨Int.ediv_nonneg hb.1 (Int.le_of_lt h.c0), ?_⟩; apply Int.ediv_lt_of_lt_mul h.c0; rw [Int.mul_comm]; exact hb.2
theorem y_eq {R W c : Int} {g : Nat} {r q : Int} (i : Inv R W c g r q) : yv R W g = r + c * q := by
 rw [i.rr, i.qq]; exact (Int.emod_add_mul_ediv _ _).symm
theorem start {R W c : Int} (h : Ctx R W c) : Inv R W c 64 R 0 := by
 have : yv R W 64 = R := by
  unfold yv
  have := h.w0; have := h.w1
  simp; omega
 exact ⟨Nat.le_refl _, by rw [this, Int.emod_eq_of_lt h.r0 h.r1], by rw [this, Int.ediv_eq_zero_of_lt h.r0 h.r1]⟩
theorem bit_eq (x : Int) (h0 : 0 ≤ x) (h1 : x < 18446744073709551616) : bits .and .u64 x 1 = x % 2 :=
 bits_mask .u64 64 (by decide) wraps_u64 1 (by decide) x h0 (by simpa using h1)
theorem or_eq (x y : Int) (h0 : 0 ≤ x) (hx : x % 2 = 0) (h1 : x < 18446744073709551616) (hy0 : 0 ≤ y) (hy : y < 2) : bits .or .u64 x y = x + y :=
 bits_join .u64 64 (by decide) wraps_u64 1 x y h0 (by omega) (by omega) hy0 (by omega) (by omega)
theorem word_bound {R W c : Int} (h : Ctx R W c) (g : Nat) : 0 ≤ W / 2 ^ g ∧ W / 2 ^ g < 18446744073709551616 := by
 have hp := pow_pos g; refine ⟨Int.ediv_nonneg h.w0 (Int.le_of_lt hp), ?_⟩; apply Int.ediv_lt_of_lt_mul hp; have := h.w1; have h2 : (18446744073709551616 : Int) * 1 ≤ 18446744073709551616 * 2 ^ g := Int.mul_le_mul_of_nonneg_left (by omega) (by decide)
 omega
theorem next_v {R W c : Int} (h : Ctx R W c) {g : Nat} {r q : Int} (i : Inv R W c (g + 1) r q) :
  bits .or .u64 (IntKind.u64.wrap (r * 2)) (bits .and .u64 (W / 2 ^ g) 1) = (r * 2) % 18446744073709551616 + (W / 2 ^ g) % 2 := by
 have hw := word_bound h g; rw [bit_eq _ hw.1 hw.2, wrap_u64]; have := r_bound h i; exact or_eq _ _ (by omega) (by omega) (by omega) (by omega) (by omega)
theorem next {R W c : Int} (h : Ctx R W c) {g : Nat} {r q : Int} (i : Inv R W c (g + 1) r q) {r' q' : Int}
  (hr : r' + c * q' = 2 * r + (W / 2 ^ g) % 2 + c * (2 * q)) (h0 : 0 ≤ r') (h1 : r' < c) : Inv R W c g r' q' := by
 have hy := y_eq i; have hs := yv_step R W g i.le
 have hu : r' + c * q' = yv R W g := by
  rw [hs, hy, hr]; have : c * (2 * q) = 2 * (c * q) := by rw [← Int.mul_assoc, Int.mul_comm c 2, Int.mul_assoc]
  rw [this]; omega
 have := (Int.ediv_emod_unique (a := yv R W g) (b := c) (r := r') (q := q') h.c0).2 ⟨hu, h0, h1⟩; exact ⟨by have := i.le; omega, this.2.symm, this.1.symm⟩
theorem q2 {R W c : Int} (h : Ctx R W c) {g : Nat} {r q : Int} (i : Inv R W c (g + 1) r q) : 0 ≤ q ∧ q * 2 < 18446744073709551616 ∧ IntKind.u64.wrap (q * 2) = q * 2 := by
 have hq := q_bound h i
 have : (2 : Int) ^ (64 - (g + 1)) ≤ 2 ^ 63 := by
  have hn : (2 : Nat) ^ (64 - (g + 1)) ≤ 2 ^ 63 := Nat.pow_le_pow_right (by decide) (by omega)
  exact_mod_cast hn
 have e : (2 : Int) ^ 63 = 9223372036854775808 := by decide
 refine ⟨hq.1, by omega, ?_⟩; rw [wrap_u64]; omega
theorem one {R W c : Int} (h : Ctx R W c) {g : Nat} {r q : Int} (i : Inv R W c (g + 1) r q)
  (hc : 9223372036854775808 ≤ r ∨ c ≤ (r * 2) % 18446744073709551616 + (W / 2 ^ g) % 2) :
  Inv R W c g (IntKind.u64.wrap (bits .or .u64 (IntKind.u64.wrap (r * 2)) (bits .and .u64 (W / 2 ^ g) 1) - c)) (bits .or .u64 (IntKind.u64.wrap (q * 2)) 1) := by
 rw [next_v h i, wrap_u64]; obtain ⟨q0, q1, q2⟩ := q2 h i; rw [q2, or_eq _ _ (by omega) (by omega) (by omega) (by omega) (by omega)]; have hr := r_bound h i; have := h.c0; have := h.c1; generalize hb : (W / 2 ^ g) % 2 = b at *; have hb2 : b = 0 ∨ b = 1 := by omega
 have e : (r * 2 % 18446744073709551616 + b - c) % 18446744073709551616 = r * 2 + b - c := by omega
 rw [e]; refine next h i ?_ (by omega) (by omega)
 rw [hb, Int.mul_add, Int.mul_one, Int.mul_comm q 2]; omega
theorem zero {R W c : Int} (h : Ctx R W c) {g : Nat} {r q : Int} (i : Inv R W c (g + 1) r q)
  (h2 : r < 9223372036854775808) (hc : (r * 2) % 18446744073709551616 + (W / 2 ^ g) % 2 < c) :
  Inv R W c g (bits .or .u64 (IntKind.u64.wrap (r * 2)) (bits .and .u64 (W / 2 ^ g) 1)) (IntKind.u64.wrap (q * 2)) := by
 rw [next_v h i]; obtain ⟨q0, q1, q2⟩ := q2 h i; rw [q2]; have hr := r_bound h i; have := h.c0; have := h.c1; generalize hb : (W / 2 ^ g) % 2 = b at *; have hb2 : b = 0 ∨ b = 1 := by omega
 have e : r * 2 % 18446744073709551616 + b = r * 2 + b := by omega
 rw [e] at hc ⊢; refine next h i ?_ (by omega) (by omega)
 rw [hb, Int.mul_comm q 2]; omega
theorem rest {R W c : Int} (h : Ctx R W c) {g : Nat} {q : Int} (i : Inv R W c (g + 1) 0 q) (hz : IntKind.u64.wrap (W * 2 ^ (63 - g)) = 0) :
  Inv R W c 0 0 (IntKind.u64.wrap (q * 2 ^ (g + 1))) := by
 have hy := y_eq i; have hp := pow_pos (g + 1); have hle := i.le; rw [wrap_u64] at hz
 have e : (2 : Int) ^ (63 - g) * 2 ^ (g + 1) = 18446744073709551616 := by
  rw [← Int.pow_add]; have : 63 - g + (g + 1) = 64 := by omega
  rw [this]; decide
 have hd : W % 2 ^ (g + 1) = 0 := by
  obtain ⟨k, hk⟩ := Int.dvd_of_emod_eq_zero hz; rw [← e, Int.mul_assoc, Int.mul_comm W] at hk; have := Int.eq_of_mul_eq_mul_left (by have := pow_pos (63 - g); omega) hk; rw [this]; exact Int.mul_emod_right _ _
 have hW : W = 2 ^ (g + 1) * (W / 2 ^ (g + 1)) := by have := Int.emod_add_mul_ediv W (2 ^ (g + 1)); omega
 have e64 : (2 : Int) ^ (64 - (g + 1)) * 2 ^ (g + 1) = 18446744073709551616 := by
  rw [← Int.pow_add]; have : 64 - (g + 1) + (g + 1) = 64 := by omega
  rw [this]; decide
 have h0 : yv R W 0 = c * (q * 2 ^ (g + 1)) := by
  have : yv R W 0 = 2 ^ (g + 1) * yv R W (g + 1) := by
   unfold yv
   rw [Int.mul_add, ← hW]
   have : (2 : Int) ^ (g + 1) * (R * 2 ^ (64 - (g + 1))) = R * 18446744073709551616 := by
    rw [← e64, Int.mul_comm, Int.mul_assoc]
   rw [this]; simp
  rw [this, hy, Int.zero_add, Int.mul_comm, Int.mul_assoc]
 have hq := q_bound h i
 have hlt : q * 2 ^ (g + 1) < 18446744073709551616 := by
  rw [← e64]; exact Int.mul_lt_mul_of_pos_right hq.2 hp
 have hge : 0 ≤ q * 2 ^ (g + 1) := Int.mul_nonneg hq.1 (Int.le_of_lt hp); rw [wrap_u64, Int.emod_eq_of_lt hge hlt]; have hc := h.c0; exact ⟨by omega, by rw [h0, Int.mul_emod_right], by rw [h0, Int.mul_ediv_cancel_left _ (by omega)]⟩
theorem fin {R W c : Int} {r q : Int} (i : Inv R W c 0 r q) (_h : Ctx R W c) : r = (R * 18446744073709551616 + W) % c ∧ q = (R * 18446744073709551616 + W) / c := by
 have : yv R W 0 = R * 18446744073709551616 + W := by unfold yv; simp
 exact ⟨by rw [i.rr, this], by rw [i.qq, this]⟩
def qh (a0 c : Int) : Int := a0 / c
def ql (a0 a1 c : Int) : Int := (a0 % c * 18446744073709551616 + a1) / c
def rm (a0 a1 c : Int) : Int := (a0 % c * 18446744073709551616 + a1) % c
theorem mask_eq (x : Int) (h0 : 0 ≤ x) (h1 : x < 18446744073709551616) : bits .and .u64 x 4294967295 = x % 4294967296 :=
 bits_mask .u64 64 (by decide) wraps_u64 32 (by decide) x h0 (by omega)
theorem or32_eq (x y : Int) (h0 : 0 ≤ x) (hx : x % 4294967296 = 0) (h1 : x < 18446744073709551616) (hy0 : 0 ≤ y) (hy : y < 4294967296) : bits .or .u64 x y = x + y :=
 bits_join .u64 64 (by decide) wraps_u64 32 x y h0 (by omega) (by omega) hy0 (by omega) (by omega)
def mbot (a b : Int) : Int := IntKind.u64.wrap (bits .and .u64 a 4294967295 * bits .and .u64 b 4294967295)
def mmid (a b : Int) : Int := IntKind.u64.wrap (IntKind.u64.wrap (a / 4294967296 * bits .and .u64 b 4294967295) + mbot a b / 4294967296)
def moth (a b : Int) : Int := IntKind.u64.wrap (IntKind.u64.wrap (bits .and .u64 a 4294967295 * (b / 4294967296)) + bits .and .u64 (mmid a b) 4294967295)
def mhi (a b : Int) : Int := IntKind.u64.wrap (IntKind.u64.wrap (IntKind.u64.wrap (a / 4294967296 * (b / 4294967296)) + mmid a b / 4294967296) + moth a b / 4294967296)
def mlo (a b : Int) : Int := bits .or .u64 (IntKind.u64.wrap (moth a b * 4294967296)) (bits .and .u64 (mbot a b) 4294967295)
theorem prod_le (x y : Int) (h0 : 0 ≤ x) (h1 : x < 4294967296) (h2 : 0 ≤ y) (h3 : y < 4294967296) : 0 ≤ x * y ∧ x * y ≤ 18446744065119617025 := by
 refine ⟨Int.mul_nonneg h0 h2, ?_⟩; have h4 : x * y ≤ 4294967295 * y := Int.mul_le_mul_of_nonneg_right (by omega) h2
 omega
theorem mul_words (a b : Int) (ha0 : 0 ≤ a) (ha1 : a < 18446744073709551616) (hb0 : 0 ≤ b) (hb1 : b < 18446744073709551616) :
  mhi a b = a * b / 18446744073709551616 ∧ mlo a b = a * b % 18446744073709551616 := by
 have e : a * b = (a / 4294967296) * (b / 4294967296) * 18446744073709551616 + ((a / 4294967296) * (b % 4294967296) + (a % 4294967296) * (b / 4294967296)) * 4294967296 + (a % 4294967296) * (b % 4294967296) := by
  have h1 : a = a / 4294967296 * 4294967296 + a % 4294967296 := by omega
  have h2 : b = b / 4294967296 * 4294967296 + b % 4294967296 := by omega
  generalize a / 4294967296 = x at *; generalize b / 4294967296 = u at *; generalize a % 4294967296 = y at *; generalize b % 4294967296 = v at *; subst h1 h2; rw [Int.add_mul, Int.mul_add, Int.mul_add]; have e1 : x * 4294967296 * (u * 4294967296) = x * u * 18446744073709551616 := by rw [Int.mul_assoc x, Int.mul_left_comm 4294967296 u, ← Int.mul_assoc x]; rfl
  have e2 : x * 4294967296 * v = x * v * 4294967296 := Int.mul_right_comm _ _ _; have e3 : y * (u * 4294967296) = y * u * 4294967296 := (Int.mul_assoc _ _ _).symm; rw [e1, e2, e3]; omega
 have hm := mask_eq a ha0 ha1; have hn := mask_eq b hb0 hb1; have p1 := prod_le (a / 4294967296) (b / 4294967296) (by omega) (by omega) (by omega) (by omega); have p2 := prod_le (a / 4294967296) (b % 4294967296) (by omega) (by omega) (by omega) (by omega); have p3 := prod_le (a % 4294967296) (b / 4294967296) (by omega) (by omega) (by omega) (by omega); have p4 := prod_le (a % 4294967296) (b % 4294967296) (by omega) (by omega) (by omega) (by omega)
 have hbot : mbot a b = (a % 4294967296) * (b % 4294967296) := by
  unfold mbot; rw [hm, hn, wrap_u64]; omega
 have hmid : mmid a b = (a / 4294967296) * (b % 4294967296) + (a % 4294967296) * (b % 4294967296) / 4294967296 := by
  unfold mmid; rw [hbot, hn, wrap_u64, wrap_u64]; omega
 have hk := mask_eq (mmid a b) (by omega) (by omega)
 have hoth : moth a b = (a % 4294967296) * (b / 4294967296) + mmid a b % 4294967296 := by
  unfold moth; rw [hk, hm, wrap_u64, wrap_u64]; omega
 have hl := mask_eq (mbot a b) (by omega) (by omega); refine ⟨?_, ?_⟩
 ·unfold mhi
  rw [wrap_u64, wrap_u64, wrap_u64, e]; generalize (a / 4294967296) * (b / 4294967296) = P1 at *; generalize (a / 4294967296) * (b % 4294967296) = P2 at *; generalize (a % 4294967296) * (b / 4294967296) = P3 at *; generalize (a % 4294967296) * (b % 4294967296) = P4 at *; clear e hl hk hm hn; generalize mmid a b = M at *; generalize moth a b = O at *; have e1 : (P1 * 18446744073709551616 + (P2 + P3) * 4294967296 + P4) / 18446744073709551616 = P1 + M / 4294967296 + O / 4294967296 := by omega
  have hM : 0 ≤ M / 4294967296 ∧ M / 4294967296 ≤ 4294967294 := by omega
  have hO : 0 ≤ O / 4294967296 ∧ O / 4294967296 ≤ 4294967295 := by omega
  rw [e1]; clear e1 hmid hoth hbot; generalize M / 4294967296 = m1 at *; generalize O / 4294967296 = o1 at *; rw [Int.emod_eq_of_lt p1.1 (by omega), Int.emod_eq_of_lt (by omega) (by omega), Int.emod_eq_of_lt (by omega) (by omega)]
 ·unfold mlo
  rw [hl, wrap_u64, or32_eq _ _ (by omega) (by omega) (by omega) (by omega) (by omega), e]; omega
theorem mul_bounds (a b : Int) (ha0 : 0 ≤ a) (ha1 : a < 18446744073709551616) (hb0 : 0 ≤ b) (hb1 : b < 18446744073709551616) :
  0 ≤ a * b / 18446744073709551616 ∧ a * b / 18446744073709551616 < 18446744073709551616 := by
 refine ⟨Int.ediv_nonneg (Int.mul_nonneg ha0 hb0) (by decide), ?_⟩; apply Int.ediv_lt_of_lt_mul (by decide); have h1 : a * b ≤ 18446744073709551615 * b := Int.mul_le_mul_of_nonneg_right (by omega) hb0
 omega
def inI (x : Int) : Prop := -9223372036854775808 ≤ x ∧ x ≤ 9223372036854775807
instance (x : Int) : Decidable (inI x) := by unfold inI; infer_instance
def ab (x : Int) : Int := if x < 0 then -x else x
theorem ab_bound {x : Int} (h : inI x) : 0 ≤ ab x ∧ ab x ≤ 9223372036854775808 := by
 unfold ab; unfold inI at h; split <;> omega
theorem ab_pos {x : Int} (h : x ≠ 0) : 0 < ab x := by unfold ab; split <;> omega
theorem ab_zero (x : Int) : ab x = 0 ↔ x = 0 := by unfold ab; split <;> omega
def awayv (mode : Int) (neg : Bool) (q r c : Int) : Bool :=
 decide (r ≠ 0) && (decide (mode = 2) || (decide (mode = 3) && decide (c - r ≤ r)) || (decide (mode = 4) && (decide (c - r < r) || (decide (r = c - r) && decide (q % 2 = 1)))) || (decide (mode = 5) && neg))
def negv (a b c : Int) : Bool := (decide (a * b ≠ 0)) && (((decide (a < 0)) != (decide (b < 0))) != (decide (c < 0)))
def sizev (a b c mode : Int) : Int := ab a * ab b / ab c + if awayv mode (negv a b c) (ab a * ab b / ab c) (ab a * ab b % ab c) (ab c) = true then 1 else 0
def signv (neg : Bool) (size : Int) : Int × Int :=
 if neg = true then (if size > 9223372036854775808 then (0, 4) else (-size, 0)) else (if size ≥ 9223372036854775808 then (0, 4) else (size, 0))
def mdv (a b c mode : Int) : Int × Int :=
 if mode < 1 ∨ mode > 5 then (0, 10) else if c = 0 then (0, 2) else signv (negv a b c) (sizev a b c mode)
def modv (a b c : Int) : Int × Int := if c = 0 then (0, 2) else ((a * b) % ab c, 0)
theorem div_words (P c : Int) (_h0 : 0 ≤ P) (hc : 0 < c) :
  qh (P / 18446744073709551616) c * 18446744073709551616 + ql (P / 18446744073709551616) (P % 18446744073709551616) c = P / c ∧ rm (P / 18446744073709551616) (P % 18446744073709551616) c = P % c := by
 unfold qh ql rm
 have hP : P = (P / 18446744073709551616) * 18446744073709551616 + P % 18446744073709551616 := by omega
 generalize P / 18446744073709551616 = hi at *; generalize P % 18446744073709551616 = lo at *; have hh : hi = c * (hi / c) + hi % c := by have := Int.emod_add_mul_ediv hi c; omega
 have e : P = c * (hi / c * 18446744073709551616) + (hi % c * 18446744073709551616 + lo) := by
  rw [hP]
  conv => lhs; rw [hh]
  rw [Int.add_mul, ← Int.mul_assoc]; omega
 rw [e]; refine ⟨?_, ?_⟩
 ·rw [Int.add_comm (c * _), Int.add_mul_ediv_left _ _ (by omega)]; omega
 ·rw [Int.mul_add_emod_self_left]
theorem qh_zero (P c : Int) (h0 : 0 ≤ P) (hc : 0 < c) : qh (P / 18446744073709551616) c = 0 ↔ P / c < 18446744073709551616 := by
 have h := (div_words P c h0 hc).1; have h1 : 0 ≤ qh (P / 18446744073709551616) c := Int.ediv_nonneg (by omega) (by omega)
 have h2 : 0 ≤ ql (P / 18446744073709551616) (P % 18446744073709551616) c ∧ ql (P / 18446744073709551616) (P % 18446744073709551616) c < 18446744073709551616 := by
  unfold ql
  have h3 := Int.emod_nonneg (P / 18446744073709551616) (show c ≠ 0 by omega); have h4 := Int.emod_lt_of_pos (P / 18446744073709551616) hc; refine ⟨Int.ediv_nonneg (by omega) (by omega), ?_⟩; apply Int.ediv_lt_of_lt_mul hc
  omega
 omega
theorem ctx0 {P c : Int} (h0 : 0 ≤ P) (h1 : P < 18446744073709551616 * 18446744073709551616) (hc : 0 < c) (hc1 : c < 18446744073709551616) : Ctx 0 (P / 18446744073709551616) c ∧ Ctx (P / 18446744073709551616 % c) (P % 18446744073709551616) c :=
 ⟨⟨hc, hc1, by omega, hc, by omega, by omega⟩, ⟨hc, hc1, Int.emod_nonneg _ (by omega), Int.emod_lt_of_pos _ hc, by omega, by omega⟩⟩
theorem prod_ab {a b : Int} (ha : inI a) (hb : inI b) : 0 ≤ ab a * ab b ∧ ab a * ab b < 18446744073709551616 * 18446744073709551616 := by
 have h1 := ab_bound ha; have h2 := ab_bound hb; refine ⟨Int.mul_nonneg h1.1 h2.1, ?_⟩; have h4 : ab a * ab b ≤ 9223372036854775808 * ab b := Int.mul_le_mul_of_nonneg_right h1.2 h2.1
 omega
end Go.Proofs.YtegpappenmhndaaDoor.M.Dv
end
section
namespace Go.Proofs.YtegpappenmhndaaDoor.M
open Go.RowKit Go.Proofs.YtegpappenmhndaaDoorW.PrintWords Go.Proofs.YtegpappenmhndaaDoorW.PrintLast Go.Proofs.YtegpappenmhndaaDoorW.PrintMore
set_option linter.unusedVariables false
def F77.Out (a0 a1 c : Int) (i r q0 q1 : Int) : Prop :=
 (i = 0 ∧ r = 0 ∧ q0 = 0 ∧ q1 = 0) ∨ (i = 1 ∧ r = a0 % c ∧ q0 = Dv.qh a0 c ∧ q1 = 0) ∨ (i = 2 ∧ r = Dv.rm a0 a1 c ∧ q0 = Dv.qh a0 c ∧ q1 = Dv.ql a0 a1 c)
theorem F77.w63 (g : Nat) (h : g ≤ 63) : (63 - (g : Int)).toNat = 63 - g := by omega
set_option maxHeartbeats 4000000 in
set_option maxRecDepth 100000 in
theorem F77.calls0 (a0 a1 c : Int) (w : World) (hx : 0 < c) (H0 : Aside0 (Dv.Ctx 0 a0 c)) (H1 : Aside0 (Dv.Ctx (a0 % c) a1 c)) :
  Calls Tryd.prog 77 #[.agg #[.int .u64 a0, .int .u64 a1], .int .u64 c] w fun e w' => e = .returned (.tuple #[.agg #[.int .u64 (Dv.qh a0 c), .int .u64 (Dv.ql a0 a1 c)], .int .u64 (Dv.rm a0 a1 c)]) ∧ Below w.heap.size w w' := by
 have i0 : ∀ W, (Instr.index 94 (.agg #[.int .u64 a0, .int .u64 a1]) (.int .i64 0)).run Tryd.prog W = .ok (.int .u64 a0) W := fun _ => by kernel_rfl
 have i1 : ∀ W, (Instr.index 94 (.agg #[.int .u64 a0, .int .u64 a1]) (.int .i64 1)).run Tryd.prog W = .ok (.int .u64 a1) W := fun _ => by kernel_rfl
 have hw0 : 0 ≤ a0 := H0.out.w0; have hw1 : 0 ≤ a1 := H1.out.w0; go_enter Tryd.func77, Tryd.ntmps77
 go_wp2
 go_step3
 go_wp2
 go_step3
 go_wp2
 go_loopg [5, 11] 2 (fun g s5 s11 wr => ∃ (i r q0 q1 : Int), i + g = 2 ∧ s11 = .int .i64 i ∧ s5 = .int .u64 r ∧ Aside0 (wr.heap[w.heap.size+1]? = some (.cells #[.int .u64 q0, .int .u64 q1] 94 (0, 0))) ∧ Aside0 (Below w.heap.size w wr) ∧ Aside0 (F77.Out a0 a1 c i r q0 q1))
 case atStart => exact ⟨0, 0, 0, 0, rfl, rfl, rfl, ⟨by have := blk_new (w.alloc (.cells #[.int .u64 a0, .int .u64 a1] 94)) (.cells #[.int .u64 0, .int .u64 0] 94); simpa using this⟩, ⟨((Below.refl _ _).alloc (Nat.le_refl _) _).alloc (by simp) _⟩, ⟨.inl ⟨rfl, rfl, rfl, rfl⟩⟩⟩
 case round =>
  obtain ⟨i, r, q0, q1, hig, rfl, rfl, hq, hb, HO⟩ := hrel; have hi : i = 0 ∨ i = 1 ∨ i = 2 := by rcases HO.out with h | h | h <;> omega
  rcases hi with rfl | rfl | rfl
  ·obtain rfl : gk = 2 := by omega
   have HI : Aside0 (Dv.Inv 0 a0 c 64 r q0) := ⟨by
    rcases HO.out with h | h | h
    ·obtain ⟨_, rfl, h3, h4⟩ := h; rw [h3]; exact Dv.start H0.out
    ·omega
    ·omega⟩
   have HQ : Aside0 (q1 = 0) := ⟨by
    rcases HO.out with h | h | h
    ·exact h.2.2.2
    ·omega
    ·omega⟩
   clear HO hig
   go_wp2
   go_loopg [5, 8] 64 (fun g2 s5 s8 wy => ∃ (r q : Int), s8 = .int .i64 ((g2 : Int) - 1) ∧ s5 = .int .u64 r ∧ 0 ≤ r ∧ Aside0 (wy.heap[w.heap.size+1]? = some (.cells #[.int .u64 q, .int .u64 q1] 94 (0, 0))) ∧ Aside0 (Below w.heap.size w wy) ∧ Aside0 (Dv.Inv 0 a0 c g2 r q))
   case atStart => exact ⟨r, q0, rfl, rfl, (Dv.r_bound H0.out HI.out).1, hq, hb, HI⟩
   case round =>
    clear hq hb HI; obtain ⟨r, q, rfl, rfl, hr0, hq, hb, HI⟩ := hrel; have c0 := blk_cell hq.out 0; have f0 := blk_frozen hq.out 0
    simp at c0
    cases gk with
    | zero =>
     go_wp2
     go_roundg 1
     case measure => omega
     case rel => exact ⟨1, r, q, q1, rfl, rfl, rfl, hq, hb, ⟨.inr (.inl ⟨rfl, by have := (Dv.fin HI.out H0.out).1; simpa using this, by have := (Dv.fin HI.out H0.out).2; simpa [Dv.qh] using this, HQ.out⟩)⟩⟩
    | succ g =>
     have eb : ((g + 1 : Nat) : Int) - 1 = g := by omega
     rw [eb]; have hg63 : g ≤ 63 := by have := HI.out.le; omega
     by_cases hr : r = 0
     ·subst hr
      by_cases hs : IntKind.u64.wrap (a0 * 2 ^ (63 - g)) = 0
      ·have hsb : (IntKind.u64.wrap (a0 * 2 ^ (63 - g)) == 0) = true := beq_iff_eq.2 hs; have I2 := Dv.rest H0.out HI.out hs; have HI2 := Aside0.mk I2; clear hs I2; have e63 := F77.w63 g hg63; have e1 : ((g : Int) + 1).toNat = g + 1 := by omega
       go_wp2
       go_roundg 1
       case measure => omega
       case rel => exact ⟨1, 0, _, q1, rfl, rfl, rfl, ⟨blk_put hq.out 0 _ rfl⟩, ⟨below_set hb.out (by omega)⟩, ⟨.inr (.inl ⟨rfl, by have := (Dv.fin HI2.out H0.out).1; simpa using this, by have := (Dv.fin HI2.out H0.out).2; simpa [Dv.qh] using this, HQ.out⟩)⟩⟩
      ·have hsb : (IntKind.u64.wrap (a0 * 2 ^ (63 - g)) == 0) = false := beq_eq_false_iff_ne.2 hs; have e63 := F77.w63 g hg63
       by_cases ht : c ≤ bits .or .u64 0 (bits .and .u64 (a0 / 2 ^ g) 1)
       ·have I2 := Dv.one H0.out HI.out (.inr (by rw [← Dv.next_v H0.out HI.out]; exact ht)); rw [show IntKind.u64.wrap ((0 : Int) * 2) = 0 from by decide] at I2; have HI2 := Aside0.mk I2; clear hs I2
        go_wp2
        go_roundg g
        case measure => omega
        case rel => exact ⟨_, _, by go_num, rfl, (Dv.r_bound H0.out HI2.out).1, ⟨blk_put (blk_put hq.out 0 _ rfl) 0 _ rfl⟩, ⟨below_set (below_set hb.out (by omega)) (by omega)⟩, HI2⟩
       ·have I2 := Dv.zero H0.out HI.out (by omega) (by rw [← Dv.next_v H0.out HI.out]; exact Int.lt_of_not_ge ht); rw [show IntKind.u64.wrap ((0 : Int) * 2) = 0 from by decide] at I2; have HI2 := Aside0.mk I2; clear hs I2
        go_wp2
        go_roundg g
        case measure => omega
        case rel => exact ⟨_, _, by go_num, rfl, (Dv.r_bound H0.out HI2.out).1, ⟨blk_put hq.out 0 _ rfl⟩, ⟨below_set hb.out (by omega)⟩, HI2⟩
     ·have hrb : (r == 0) = false := beq_eq_false_iff_ne.2 hr
      by_cases hk : r / 9223372036854775808 = 1
      ·have hkb : (r / 9223372036854775808 == 1) = true := beq_iff_eq.2 hk; have I2 := Dv.one H0.out HI.out (.inl (by omega)); have HI2 := Aside0.mk I2; clear hr hk I2
       go_wp2
       go_roundg g
       case measure => omega
       case rel => exact ⟨_, _, by go_num, rfl, (Dv.r_bound H0.out HI2.out).1, ⟨blk_put (blk_put hq.out 0 _ rfl) 0 _ rfl⟩, ⟨below_set (below_set hb.out (by omega)) (by omega)⟩, HI2⟩
      ·have hkb : (r / 9223372036854775808 == 1) = false := beq_eq_false_iff_ne.2 hk; have hlt : r < 9223372036854775808 := by have := (Dv.r_bound H0.out HI.out).2; have := H0.out.c1; omega
       by_cases ht : c ≤ bits .or .u64 (IntKind.u64.wrap (r * 2)) (bits .and .u64 (a0 / 2 ^ g) 1)
       ·have I2 := Dv.one H0.out HI.out (.inr (by rw [← Dv.next_v H0.out HI.out]; exact ht)); have HI2 := Aside0.mk I2; have htb : decide (bits .or .u64 (IntKind.u64.wrap (r * 2)) (bits .and .u64 (a0 / 2 ^ g) 1) ≥ c) = true := decide_eq_true ht; clear hr hk I2 hlt ht
        go_wp2
        go_roundg g
        case measure => omega
        case rel => exact ⟨_, _, by go_num, rfl, (Dv.r_bound H0.out HI2.out).1, ⟨blk_put (blk_put hq.out 0 _ rfl) 0 _ rfl⟩, ⟨below_set (below_set hb.out (by omega)) (by omega)⟩, HI2⟩
       ·have I2 := Dv.zero H0.out HI.out hlt (by rw [← Dv.next_v H0.out HI.out]; exact Int.lt_of_not_ge ht); have HI2 := Aside0.mk I2; have htb : decide (bits .or .u64 (IntKind.u64.wrap (r * 2)) (bits .and .u64 (a0 / 2 ^ g) 1) ≥ c) = false := decide_eq_false ht; clear hr hk I2 hlt ht
        go_wp2
        go_roundg g
        case measure => omega
        case rel => exact ⟨_, _, by go_num, rfl, (Dv.r_bound H0.out HI2.out).1, ⟨blk_put hq.out 0 _ rfl⟩, ⟨below_set hb.out (by omega)⟩, HI2⟩
  ·obtain rfl : gk = 1 := by omega
   have HI : Aside0 (Dv.Inv (a0 % c) a1 c 64 r q1) := ⟨by
    rcases HO.out with h | h | h
    ·omega
    ·obtain ⟨_, rfl, h3, h4⟩ := h; rw [h4]; exact Dv.start H1.out
    ·omega⟩
   have HQ : Aside0 (q0 = Dv.qh a0 c) := ⟨by
    rcases HO.out with h | h | h
    ·omega
    ·exact h.2.2.1
    ·omega⟩
   clear HO hig
   go_wp2
   go_loopg [5, 8] 64 (fun g2 s5 s8 wy => ∃ (r q : Int), s8 = .int .i64 ((g2 : Int) - 1) ∧ s5 = .int .u64 r ∧ 0 ≤ r ∧ Aside0 (wy.heap[w.heap.size+1]? = some (.cells #[.int .u64 q0, .int .u64 q] 94 (0, 0))) ∧ Aside0 (Below w.heap.size w wy) ∧ Aside0 (Dv.Inv (a0 % c) a1 c g2 r q))
   case atStart => exact ⟨r, q1, rfl, rfl, (Dv.r_bound H1.out HI.out).1, hq, hb, HI⟩
   case round =>
    clear hq hb HI; obtain ⟨r, q, rfl, rfl, hr0, hq, hb, HI⟩ := hrel; have c0 := blk_cell hq.out 1; have f0 := blk_frozen hq.out 1
    simp at c0
    cases gk with
    | zero =>
     go_wp2
     go_roundg 0
     case measure => omega
     case rel => exact ⟨2, r, q0, q, rfl, rfl, rfl, hq, hb, ⟨.inr (.inr ⟨rfl, (Dv.fin HI.out H1.out).1, HQ.out, (Dv.fin HI.out H1.out).2⟩)⟩⟩
    | succ g =>
     have eb : ((g + 1 : Nat) : Int) - 1 = g := by omega
     rw [eb]; have hg63 : g ≤ 63 := by have := HI.out.le; omega
     by_cases hr : r = 0
     ·subst hr
      by_cases hs : IntKind.u64.wrap (a1 * 2 ^ (63 - g)) = 0
      ·have hsb : (IntKind.u64.wrap (a1 * 2 ^ (63 - g)) == 0) = true := beq_iff_eq.2 hs; have I2 := Dv.rest H1.out HI.out hs; have HI2 := Aside0.mk I2; clear hs I2; have e63 := F77.w63 g hg63; have e1 : ((g : Int) + 1).toNat = g + 1 := by omega
       go_wp2
       go_roundg 0
       case measure => omega
       case rel => exact ⟨2, 0, q0, _, rfl, rfl, rfl, ⟨blk_put hq.out 1 _ rfl⟩, ⟨below_set hb.out (by omega)⟩, ⟨.inr (.inr ⟨rfl, (Dv.fin HI2.out H1.out).1, HQ.out, (Dv.fin HI2.out H1.out).2⟩)⟩⟩
      ·have hsb : (IntKind.u64.wrap (a1 * 2 ^ (63 - g)) == 0) = false := beq_eq_false_iff_ne.2 hs; have e63 := F77.w63 g hg63
       by_cases ht : c ≤ bits .or .u64 0 (bits .and .u64 (a1 / 2 ^ g) 1)
       ·have I2 := Dv.one H1.out HI.out (.inr (by rw [← Dv.next_v H1.out HI.out]; exact ht)); rw [show IntKind.u64.wrap ((0 : Int) * 2) = 0 from by decide] at I2; have HI2 := Aside0.mk I2; clear hs I2
        go_wp2
        go_roundg g
        case measure => omega
        case rel => exact ⟨_, _, by go_num, rfl, (Dv.r_bound H1.out HI2.out).1, ⟨blk_put (blk_put hq.out 1 _ rfl) 1 _ rfl⟩, ⟨below_set (below_set hb.out (by omega)) (by omega)⟩, HI2⟩
       ·have I2 := Dv.zero H1.out HI.out (by omega) (by rw [← Dv.next_v H1.out HI.out]; exact Int.lt_of_not_ge ht); rw [show IntKind.u64.wrap ((0 : Int) * 2) = 0 from by decide] at I2; have HI2 := Aside0.mk I2; clear hs I2
        go_wp2
        go_roundg g
        case measure => omega
        case rel => exact ⟨_, _, by go_num, rfl, (Dv.r_bound H1.out HI2.out).1, ⟨blk_put hq.out 1 _ rfl⟩, ⟨below_set hb.out (by omega)⟩, HI2⟩
     ·have hrb : (r == 0) = false := beq_eq_false_iff_ne.2 hr
      by_cases hk : r / 9223372036854775808 = 1
      ·have hkb : (r / 9223372036854775808 == 1) = true := beq_iff_eq.2 hk; have I2 := Dv.one H1.out HI.out (.inl (by omega)); have HI2 := Aside0.mk I2; clear hr hk I2
       go_wp2
       go_roundg g
       case measure => omega
       case rel => exact ⟨_, _, by go_num, rfl, (Dv.r_bound H1.out HI2.out).1, ⟨blk_put (blk_put hq.out 1 _ rfl) 1 _ rfl⟩, ⟨below_set (below_set hb.out (by omega)) (by omega)⟩, HI2⟩
      ·have hkb : (r / 9223372036854775808 == 1) = false := beq_eq_false_iff_ne.2 hk; have hlt : r < 9223372036854775808 := by have := (Dv.r_bound H1.out HI.out).2; have := H1.out.c1; omega
       by_cases ht : c ≤ bits .or .u64 (IntKind.u64.wrap (r * 2)) (bits .and .u64 (a1 / 2 ^ g) 1)
       ·have I2 := Dv.one H1.out HI.out (.inr (by rw [← Dv.next_v H1.out HI.out]; exact ht)); have HI2 := Aside0.mk I2; have htb : decide (bits .or .u64 (IntKind.u64.wrap (r * 2)) (bits .and .u64 (a1 / 2 ^ g) 1) ≥ c) = true := decide_eq_true ht; clear hr hk I2 hlt ht
        go_wp2
        go_roundg g
        case measure => omega
        case rel => exact ⟨_, _, by go_num, rfl, (Dv.r_bound H1.out HI2.out).1, ⟨blk_put (blk_put hq.out 1 _ rfl) 1 _ rfl⟩, ⟨below_set (below_set hb.out (by omega)) (by omega)⟩, HI2⟩
       ·have I2 := Dv.zero H1.out HI.out hlt (by rw [← Dv.next_v H1.out HI.out]; exact Int.lt_of_not_ge ht); have HI2 := Aside0.mk I2; have htb : decide (bits .or .u64 (IntKind.u64.wrap (r * 2)) (bits .and .u64 (a1 / 2 ^ g) 1) ≥ c) = false := decide_eq_false ht; clear hr hk I2 hlt ht
        go_wp2
        go_roundg g
        case measure => omega
        case rel => exact ⟨_, _, by go_num, rfl, (Dv.r_bound H1.out HI2.out).1, ⟨blk_put hq.out 1 _ rfl⟩, ⟨below_set hb.out (by omega)⟩, HI2⟩
  ·have hlt : ¬ ((2 : Int) < 2) := by omega
   have c0 := blk_cell hq.out 0; have c1 := blk_cell hq.out 1; have f0 := blk_frozen hq.out 0; have f1 := blk_frozen hq.out 1
   simp at c0 c1
   go_wp2
   obtain ⟨_, rfl, rfl, rfl⟩ : (2 : Int) = 2 ∧ r = Dv.rm a0 a1 c ∧ q0 = Dv.qh a0 c ∧ q1 = Dv.ql a0 a1 c := by
    rcases HO.out with h | h | h
    ·omega
    ·omega
    ·exact h
   refine bodyPost_ret (results_ct rfl _ _ (w.heap.size + 1) 94 #[.int .u64 (Dv.qh a0 c), .int .u64 (Dv.ql a0 a1 c)] (0, 0) _ rfl (by first | exact hq.out | exact blk_put (blk_put hq.out 0 _ rfl) 1 _ rfl) Tryd.underlying94 rfl (by kernel_rfl)) rfl ?_; exact ⟨rfl, by first | exact hb.out | exact below_set (below_set hb.out (by omega)) (by omega)⟩
def F77.f (a0 a1 a2 : Int) : Option (Int × Int × Int) :=
 if 0 < a2 ∧ a2 < 18446744073709551616 ∧ 0 ≤ a0 ∧ a0 < 18446744073709551616 ∧ 0 ≤ a1 ∧ a1 < 18446744073709551616 then some (Dv.qh a0 a2, Dv.ql a0 a1 a2, Dv.rm a0 a1 a2) else none
theorem F77.calls (a0 a1 a2 : Int) (r1 r2 r3 : Int) (w : World) (h : F77.f a0 a1 a2 = some (r1, r2, r3)) :
  Calls Tryd.prog 77 #[.agg #[.int .u64 a0, .int .u64 a1], .int .u64 a2] w fun e w' => e = .returned (.tuple #[.agg #[.int .u64 r1, .int .u64 r2], .int .u64 r3]) ∧ Below w.heap.size w w' := by
 unfold F77.f at h
 split at h
 ·rename_i hc
  simp only [Option.some.injEq, Prod.mk.injEq] at h; obtain ⟨rfl, rfl, rfl⟩ := h; exact F77.calls0 a0 a1 a2 w hc.1 ⟨⟨hc.1, hc.2.1, by omega, hc.1, by omega, by omega⟩⟩ ⟨⟨hc.1, hc.2.1, Int.emod_nonneg _ (by omega), Int.emod_lt_of_pos _ hc.1, by omega, by omega⟩⟩
 ·cases h
end Go.Proofs.YtegpappenmhndaaDoor.M
end
section
namespace Go.Proofs.YtegpappenmhndaaDoor.M
open Go.RowKit Go.Proofs.YtegpappenmhndaaDoorW.PrintWords Go.Proofs.YtegpappenmhndaaDoorW.PrintLast Go.Proofs.YtegpappenmhndaaDoorW.PrintMore
attribute [local go_sem] max2_int min2_int max_two min_two max_three min_three max_four min_four
set_option linter.unusedVariables false
set_option linter.unusedSimpArgs false
theorem eqA94 (d : Nat) (w : World) (x0 y0 : Int) (x1 y1 : Int) :
    (Op.equalIn (d + 2) 94 (.agg #[.int .u64 x0, .int .u64 x1]) (.agg #[.int .u64 y0, .int .u64 y1])).run Tryd.prog w = .ok (x0 == y0 && (x1 == y1)) w := by
  have hu := Tryd.underlying94; have hu2 := Tryd.underlying84; rw [Op.equalIn]; simp only [Sem.run_bind, run_underlying hu, Result.andThen_ok]; have hs : ∀ w, (sizeOf 84).run Tryd.prog w = .ok 1 w := fun w => by kernel_rfl
  have e : ∀ (a b : Int) w, (Op.equalIn (d+1) 84 (.int .u64 a) (.int .u64 b)).run Tryd.prog w = .ok (a == b) w := fun a b w => by
    rw [Op.equalIn]
    simp [Sem.run_bind, run_underlying hu2]
  have p0 : ∀ (z0 : Int) (z1 : Int) w, (part 84 #[.int .u64 z0, .int .u64 z1] 0).run Tryd.prog w = .ok (.int .u64 z0) w := fun z0 z1 w => by go_simp
  have p1 : ∀ (z0 : Int) (z1 : Int) w, (part 84 #[.int .u64 z0, .int .u64 z1] 1).run Tryd.prog w = .ok (.int .u64 z1) w := fun z0 z1 w => by go_simp
  simp only [hs, Result.andThen_ok, Std.Legacy.Range.forIn_eq_forIn_range']; simp only [Std.Legacy.Range.size, List.range']
  cases h0 : (x0 == y0) <;> cases h1 : (x1 == y1) <;> simp [p0, p1, e, Sem.run_bind, h0, h1]
def F75.f (a0 : Int) (a1 : Int) : Option (Int × Int) := some (IntKind.u64.wrap ((IntKind.u64.wrap ((IntKind.u64.wrap ((a0 / 4294967296) * (a1 / 4294967296))) + ((IntKind.u64.wrap ((IntKind.u64.wrap ((a0 / 4294967296) * (Go.bits .and .u64 a1 4294967295))) + ((IntKind.u64.wrap ((Go.bits .and .u64 a0 4294967295) * (Go.bits .and .u64 a1 4294967295))) / 4294967296))) / 4294967296))) + ((IntKind.u64.wrap ((IntKind.u64.wrap ((Go.bits .and .u64 a0 4294967295) * (a1 / 4294967296))) + (Go.bits .and .u64 (IntKind.u64.wrap ((IntKind.u64.wrap ((a0 / 4294967296) * (Go.bits .and .u64 a1 4294967295))) + ((IntKind.u64.wrap ((Go.bits .and .u64 a0 4294967295) * (Go.bits .and .u64 a1 4294967295))) / 4294967296))) 4294967295))) / 4294967296)), Go.bits .or .u64 (IntKind.u64.wrap ((IntKind.u64.wrap ((IntKind.u64.wrap ((Go.bits .and .u64 a0 4294967295) * (a1 / 4294967296))) + (Go.bits .and .u64 (IntKind.u64.wrap ((IntKind.u64.wrap ((a0 / 4294967296) * (Go.bits .and .u64 a1 4294967295))) + ((IntKind.u64.wrap ((Go.bits .and .u64 a0 4294967295) * (Go.bits .and .u64 a1 4294967295))) / 4294967296))) 4294967295))) * 4294967296)) (Go.bits .and .u64 (IntKind.u64.wrap ((Go.bits .and .u64 a0 4294967295) * (Go.bits .and .u64 a1 4294967295))) 4294967295))
set_option maxHeartbeats 8000000 in
set_option maxRecDepth 100000 in
theorem F75.calls (a0 : Int) (a1 : Int) (r1 : Int) (r2 : Int) (w : World) (h : F75.f a0 a1 = some (r1, r2)) :
    Calls Tryd.prog 75 #[.int .u64 a0, .int .u64 a1] w fun e w' => e = .returned (.agg #[.int .u64 r1, .int .u64 r2]) ∧ Below w.heap.size w w' := by
 have hu94 := Tryd.underlying94; have HB := Aside0.mk (Below.refl w.heap.size w)
 unfold F75.f at h
 have H := h; clear h; simp only [Option.some.injEq, Prod.mk.injEq] at H; obtain ⟨rfl, rfl⟩ := H; go_enter Tryd.func75, Tryd.ntmps75
 go_wp2_with (first | ((with_reducible refine gate_dst (N := 4) rfl ?_); refine box_event ?hg (N := 4) ?hd (cs := #[.int .u64 0, .int .u64 0]) (t := 94) ?hr ?_; (case hd => rfl); (case hg => rfl); (case hr => first | (go_simp; done) | (go_simp; rfl)); intro gb101 hg w3 hbox hb; have BK101 := Aside0.mk (hbox); have GW101 := Aside0.mk ((pbb2_6 : w.heap.size ≤ gb101)); have GE101 := Aside0.mk ((pbb2_6 : w.heap.size ≤ gb101)); replace HB := Aside0.mk (below_step pbb2_3 hb); clear hb hbox hg; obtain ⟨hcz4_0, hcz4_1⟩ := cz2 BK101.out; obtain ⟨hfz4_0, hfz4_1⟩ := fz2 BK101.out))
 refine bodyPost_ret (results_cell_row rfl _ _ gb101 94 #[.int .u64 (IntKind.u64.wrap ((IntKind.u64.wrap ((IntKind.u64.wrap ((a0 / 4294967296) * (a1 / 4294967296))) + ((IntKind.u64.wrap ((IntKind.u64.wrap ((a0 / 4294967296) * (Go.bits .and .u64 a1 4294967295))) + ((IntKind.u64.wrap ((Go.bits .and .u64 a0 4294967295) * (Go.bits .and .u64 a1 4294967295))) / 4294967296))) / 4294967296))) + ((IntKind.u64.wrap ((IntKind.u64.wrap ((Go.bits .and .u64 a0 4294967295) * (a1 / 4294967296))) + (Go.bits .and .u64 (IntKind.u64.wrap ((IntKind.u64.wrap ((a0 / 4294967296) * (Go.bits .and .u64 a1 4294967295))) + ((IntKind.u64.wrap ((Go.bits .and .u64 a0 4294967295) * (Go.bits .and .u64 a1 4294967295))) / 4294967296))) 4294967295))) / 4294967296))), .int .u64 (Go.bits .or .u64 (IntKind.u64.wrap ((IntKind.u64.wrap ((IntKind.u64.wrap ((Go.bits .and .u64 a0 4294967295) * (a1 / 4294967296))) + (Go.bits .and .u64 (IntKind.u64.wrap ((IntKind.u64.wrap ((a0 / 4294967296) * (Go.bits .and .u64 a1 4294967295))) + ((IntKind.u64.wrap ((Go.bits .and .u64 a0 4294967295) * (Go.bits .and .u64 a1 4294967295))) / 4294967296))) 4294967295))) * 4294967296)) (Go.bits .and .u64 (IntKind.u64.wrap ((Go.bits .and .u64 a0 4294967295) * (Go.bits .and .u64 a1 4294967295))) 4294967295))] (0, 0) _ rfl (by (with_reducible repeat (first | refine blk_drewN ?_ _ | refine blk_drew ?_ | refine blk_alloc ?_ _)); refine blk_put (cs := #[.int .u64 (IntKind.u64.wrap ((IntKind.u64.wrap ((IntKind.u64.wrap ((a0 / 4294967296) * (a1 / 4294967296))) + ((IntKind.u64.wrap ((IntKind.u64.wrap ((a0 / 4294967296) * (Go.bits .and .u64 a1 4294967295))) + ((IntKind.u64.wrap ((Go.bits .and .u64 a0 4294967295) * (Go.bits .and .u64 a1 4294967295))) / 4294967296))) / 4294967296))) + ((IntKind.u64.wrap ((IntKind.u64.wrap ((Go.bits .and .u64 a0 4294967295) * (a1 / 4294967296))) + (Go.bits .and .u64 (IntKind.u64.wrap ((IntKind.u64.wrap ((a0 / 4294967296) * (Go.bits .and .u64 a1 4294967295))) + ((IntKind.u64.wrap ((Go.bits .and .u64 a0 4294967295) * (Go.bits .and .u64 a1 4294967295))) / 4294967296))) 4294967295))) / 4294967296))), .int .u64 0]) ?_ 1 _ rfl; (with_reducible repeat (first | refine blk_drewN ?_ _ | refine blk_drew ?_ | refine blk_alloc ?_ _)); refine blk_put (cs := #[.int .u64 0, .int .u64 0]) ?_ 0 _ rfl; (with_reducible repeat (first | refine blk_drewN ?_ _ | refine blk_drew ?_ | refine blk_alloc ?_ _)); exact BK101.out) Tryd.underlying94 rfl (by kernel_rfl)) rfl ?_; exact ⟨pbb2_5, pbb2_9⟩
def F76.f (a0 : Int) : Option (Int) := if a0 < 0 then (some (IntKind.u64.wrap (-(IntKind.u64.wrap (a0))))) else (some (IntKind.u64.wrap (a0)))
set_option maxHeartbeats 8000000 in
set_option maxRecDepth 100000 in
theorem F76.calls (a0 : Int) (r : Int) (w : World) (h : F76.f a0 = some r) :
    Calls Tryd.prog 76 #[.int .i64 a0] w fun e w' => e = .returned (.int .u64 r) ∧ Drawn0 w w' := by
 unfold F76.f at h
 have H := h; clear h
 by_cases c2 : a0 < 0
 ·rw [if_pos c2] at H; have c2b0 := decide_eq_true c2; clear c2; obtain rfl := Option.some.inj H; go_enter Tryd.func76, Tryd.ntmps76
  go_wp2
  go_ret
  exact ⟨pbb2_0, pbb2_1⟩
 ·rw [if_neg c2] at H; have c2b0 := decide_eq_false c2; clear c2; obtain rfl := Option.some.inj H; go_enter Tryd.func76, Tryd.ntmps76
  go_wp2
  go_ret
  exact ⟨pbb2_0, pbb2_1⟩
def F78.f (a0 : Int) (a1 : Bool) (a2 : Bool) (a3 : Int) (a4 : Int) : Option (Bool) := if a3 = 0 then (some false) else (if a0 = 2 then (some true) else (if a0 = 3 then (some (decide (a3 ≥ (IntKind.u64.wrap (a4 - a3))))) else (if a0 = 4 then (if a3 > (IntKind.u64.wrap (a4 - a3)) then (some true) else (if a3 = (IntKind.u64.wrap (a4 - a3)) then (some a2) else (some false))) else (if a0 = 5 then (some a1) else (some false)))))
set_option maxHeartbeats 8000000 in
set_option maxRecDepth 100000 in
theorem F78.calls (a0 : Int) (a1 : Bool) (a2 : Bool) (a3 : Int) (a4 : Int) (r : Bool) (w : World) (h : F78.f a0 a1 a2 a3 a4 = some r) :
    Calls Tryd.prog 78 #[.int .i64 a0, .bool a1, .bool a2, .int .u64 a3, .int .u64 a4] w fun e w' => e = .returned (.bool r) ∧ Drawn0 w w' := by
 unfold F78.f at h
 have H := h; clear h
 by_cases c6 : a3 = 0
 ·rw [if_pos c6] at H; have c6b0 := bT_ c6; have c6b1 := bF_ c6; clear c6; obtain rfl := Option.some.inj H; go_enter Tryd.func78, Tryd.ntmps78
  go_wp2
  go_ret
  exact ⟨pbb2_0, pbb2_1⟩
 ·rw [if_neg c6] at H; have c6b0 := nF_ c6; have c6b1 := nT_ c6
  by_cases c7 : a0 = 2
  ·rw [if_pos c7] at H; have c7b0 := bT_ c7; have c7b1 := bF_ c7; clear c7; obtain rfl := Option.some.inj H; go_enter Tryd.func78, Tryd.ntmps78
   go_wp2
   go_ret
   exact ⟨pbb2_0, pbb2_1⟩
  ·rw [if_neg c7] at H; have c7b0 := nF_ c7; have c7b1 := nT_ c7
   by_cases c8 : a0 = 3
   ·rw [if_pos c8] at H; have c8b0 := bT_ c8; have c8b1 := bF_ c8; clear c8; obtain rfl := Option.some.inj H; go_enter Tryd.func78, Tryd.ntmps78
    go_wp2
    go_ret
    exact ⟨pbb2_0, pbb2_1⟩
   ·rw [if_neg c8] at H; have c8b0 := nF_ c8; have c8b1 := nT_ c8
    by_cases c9 : a0 = 4
    ·rw [if_pos c9] at H; have c9b0 := bT_ c9; have c9b1 := bF_ c9; clear c9
     by_cases c10 : a3 > (IntKind.u64.wrap (a4 - a3))
     ·rw [if_pos c10] at H; have c10b0 : decide ((IntKind.u64.wrap (a4 - a3)) < a3) = true := decide_eq_true c10; clear c10; obtain rfl := Option.some.inj H; go_enter Tryd.func78, Tryd.ntmps78
      go_wp2
      go_ret
      exact ⟨pbb2_0, pbb2_1⟩
     ·rw [if_neg c10] at H; have c10b0 : decide ((IntKind.u64.wrap (a4 - a3)) < a3) = false := decide_eq_false c10; clear c10
      by_cases c11 : a3 = (IntKind.u64.wrap (a4 - a3))
      ·rw [if_pos c11] at H; have c11b0 := bT_ c11; have c11b1 := bF_ c11; clear c11; obtain rfl := Option.some.inj H; go_enter Tryd.func78, Tryd.ntmps78
       go_wp2
       go_ret
       exact ⟨pbb2_0, pbb2_1⟩
      ·rw [if_neg c11] at H; have c11b0 := nF_ c11; have c11b1 := nT_ c11; obtain rfl := Option.some.inj H; go_enter Tryd.func78, Tryd.ntmps78
       go_wp2
       go_ret
       exact ⟨pbb2_0, pbb2_1⟩
    ·rw [if_neg c9] at H; have c9b0 := nF_ c9; have c9b1 := nT_ c9
     by_cases c12 : a0 = 5
     ·rw [if_pos c12] at H; have c12b0 := bT_ c12; have c12b1 := bF_ c12; clear c12; obtain rfl := Option.some.inj H; go_enter Tryd.func78, Tryd.ntmps78
      go_wp2
      go_ret
      exact ⟨pbb2_0, pbb2_1⟩
     ·rw [if_neg c12] at H; have c12b0 := nF_ c12; have c12b1 := nT_ c12; obtain rfl := Option.some.inj H; go_enter Tryd.func78, Tryd.ntmps78
      go_wp2
      go_ret
      exact ⟨pbb2_0, pbb2_1⟩
def F79.f (a0 : Bool) (a1 : Int) : Option (Int × Int) := if a0 = true then (if a1 > 9223372036854775808 then (some (0, 4)) else (some (wrap64 ((wrap64 (-(wrap64 (IntKind.u64.wrap (a1 - 1))))) - 1), 0))) else (if a1 ≥ 9223372036854775808 then (some (0, 4)) else (some (wrap64 (a1), 0)))
set_option maxHeartbeats 8000000 in
set_option maxRecDepth 100000 in
theorem F79.calls (a0 : Bool) (a1 : Int) (r1 : Int) (r2 : Int) (w : World) (h : F79.f a0 a1 = some (r1, r2)) :
    Calls Tryd.prog 79 #[.bool a0, .int .u64 a1] w fun e w' => e = .returned (.tuple #[.int .i64 r1, .int .i64 r2]) ∧ Drawn0 w w' := by
 unfold F79.f at h
 have H := h; clear h
 by_cases c3 : a0 = true
 ·subst c3; rw [if_pos rfl] at H
  by_cases c4 : a1 > 9223372036854775808
  ·rw [if_pos c4] at H; have c4b0 : decide (9223372036854775808 < a1) = true := decide_eq_true c4; clear c4; simp only [Option.some.injEq, Prod.mk.injEq] at H; obtain ⟨rfl, rfl⟩ := H; go_enter Tryd.func79, Tryd.ntmps79
   go_wp2
   go_ret2
   exact ⟨pbb2_0, pbb2_1⟩
  ·rw [if_neg c4] at H; have c4b0 : decide (9223372036854775808 < a1) = false := decide_eq_false c4; clear c4; simp only [Option.some.injEq, Prod.mk.injEq] at H; obtain ⟨rfl, rfl⟩ := H; go_enter Tryd.func79, Tryd.ntmps79
   go_wp2
   go_ret2
   exact ⟨pbb2_0, pbb2_1⟩
 ·replace c3 := Bool.eq_false_iff.mpr c3; subst c3; rw [if_neg (show ¬ (false = true) by decide)] at H
  by_cases c5 : a1 ≥ 9223372036854775808
  ·rw [if_pos c5] at H; have c5b0 : decide (9223372036854775808 ≤ a1) = true := decide_eq_true c5; clear c5; simp only [Option.some.injEq, Prod.mk.injEq] at H; obtain ⟨rfl, rfl⟩ := H; go_enter Tryd.func79, Tryd.ntmps79
   go_wp2
   go_ret2
   exact ⟨pbb2_0, pbb2_1⟩
  ·rw [if_neg c5] at H; have c5b0 : decide (9223372036854775808 ≤ a1) = false := decide_eq_false c5; clear c5; simp only [Option.some.injEq, Prod.mk.injEq] at H; obtain ⟨rfl, rfl⟩ := H; go_enter Tryd.func79, Tryd.ntmps79
   go_wp2
   go_ret2
   exact ⟨pbb2_0, pbb2_1⟩
end Go.Proofs.YtegpappenmhndaaDoor.M
end
section
namespace Go.Proofs.YtegpappenmhndaaDoor.M
open Go.RowKit Go.Proofs.YtegpappenmhndaaDoorW.PrintWords Go.Proofs.YtegpappenmhndaaDoorW.PrintLast Go.Proofs.YtegpappenmhndaaDoorW.PrintMore
attribute [local go_sem] max2_int min2_int max_two min_two max_three min_three max_four min_four
set_option linter.unusedVariables false
set_option linter.unusedSimpArgs false
attribute [local go_sem high] eqA94
mutual
def F66.j0 : Nat → Int → Int → Int → Int → Bool → Option (Int × Int)
  | 0, _, _, _, _, _ => none
  | k + 1, x0, x1, x2, x3, x20 => if x20 = true then (some (0, 10)) else (if x2 = 0 then (some (0, 2)) else ((F76.f x0).bind fun t101 => ((F76.f x1).bind fun t102 => ((F75.f t101 t102).bind fun bt103 => (if (!(bt103.1 == 0) || (!(bt103.2 == 0))) = true then (F66.j1 k x2 x3 (((decide (x0 < 0)) != (decide (x1 < 0))) != (decide (x2 < 0))) bt103.1 bt103.2) else (F66.j1 k x2 x3 false bt103.1 bt103.2))))))
def F66.j1 : Nat → Int → Int → Bool → Int → Int → Option (Int × Int)
  | 0, _, _, _, _, _ => none
  | k + 1, x2, x3, x11, x106000, x106001 => (F76.f x2).bind fun t106 => ((F77.f x106000 x106001 t106).bind fun bt107 => (if bt107.1 = 0 then ((F76.f x2).bind fun t111 => ((F78.f x3 x11 ((Int.tmod bt107.2.1 2) == 1) bt107.2.2 t111).bind fun t112 => (if t112 = true then (if (IntKind.u64.wrap (bt107.2.1 + 1)) = 0 then (some (0, 4)) else ((F79.f x11 (IntKind.u64.wrap (bt107.2.1 + 1))).bind fun bt113 => (some (bt113.1, bt113.2)))) else ((F79.f x11 bt107.2.1).bind fun bt115 => (some (bt115.1, bt115.2)))))) else (some (0, 4))))
end
def F66.f (k : Nat) (a0 : Int) (a1 : Int) (a2 : Int) (a3 : Int) : Option (Int × Int) := if a3 < 1 then (F66.j0 k a0 a1 a2 a3 true) else (F66.j0 k a0 a1 a2 a3 (decide (a3 > 5)))
def F66.T7 : Bool × List (List Nat × List Nat) := (true, [([], []), ([], []), ([1], [1]), ([0, 2, 2], [0, 2]), ([3], [3]), ([4], [4]), ([4], [4]), ([], []), ([7, 5, 3, 0, 1, 2, 3, 4, 5, 7], [5, 7]), ([6, 8, 0, 1, 2, 3, 4, 5, 6, 7, 8], [6])])
def F66.B7 : List Nat := [0, 0, 2, 7, 15, 31, 31, 0, 191, 511]
theorem F66.tab7 : rtab .any (opsOf Tryd.f66 7) = F66.T7 := by kernel_rfl
theorem F66.bits7 : waitsOk F66.T7.2 F66.B7 = true := by kernel_rfl
set_option maxHeartbeats 8000000 in
set_option maxRecDepth 100000 in
theorem F66.calls (k : Nat) (a0 : Int) (a1 : Int) (a2 : Int) (a3 : Int) (r1 : Int) (r2 : Int) (w : World) (h : F66.f k a0 a1 a2 a3 = some (r1, r2)) :
    Calls Tryd.prog 66 #[.int .i64 a0, .int .i64 a1, .int .i64 a2, .int .i64 a3] w fun e w' => e = .returned (.tuple #[.int .i64 r1, .int .i64 r2]) ∧ Below w.heap.size w w' := by
 have hu94 := Tryd.underlying94; have hu84 := Tryd.underlying84; have HB := Aside0.mk (Below.refl w.heap.size w)
 unfold F66.f at h
 have H := h; clear h; have HC5 := Aside0.mk H; clear H; go_enter Tryd.func66, Tryd.ntmps66
 go_upto_region 1 with (fail)
 go_cut [20] (fun v20 wc => ∃ (kq : Nat) (x20_4 : Bool), v20 = .bool x20_4 ∧ Aside0 (F66.j0 kq a0 a1 a2 a3 x20_4 = some (r1, r2)) ∧ Aside0 (kq ≤ k) ∧ Aside0 (Below w.heap.size w wc))
 case first =>
  have H := HC5.out; clear HC5
  by_cases c6 : a3 < 1
  ·rw [if_pos c6] at H; have c6b0 := decide_eq_true c6; clear c6; (first | rw [c6b0] | (simp only [i64_w, i32_w]; rw [c6b0]) | skip); have H' := Aside0.mk H; clear H
   go_wp2
   go_meet
   case rel => exact ⟨_, (true), pbb2_0, H', ⟨by first | omega | exact Nat.le_refl _⟩, ⟨pbb2_3⟩⟩
  ·rw [if_neg c6] at H; have c6b0 := decide_eq_false c6; clear c6; (first | rw [c6b0] | (simp only [i64_w, i32_w]; rw [c6b0]) | skip); have H' := Aside0.mk H; clear H
   go_wp2
   go_meet
   case rel => exact ⟨_, (decide (a3 > 5)), pbb2_0, H', ⟨by first | omega | exact Nat.le_refl _⟩, ⟨pbb2_3⟩⟩
 case rest =>
  as_aux_lemma =>
   clear HC5; obtain ⟨kq, x20_4, rfl, HA, HJ4, HB⟩ := hcut
   cases kq with
   | zero => exact absurd HA.out (by simp [F66.j0])
   | succ kj4 =>
    have H := HA.out; clear HA; simp only [F66.j0] at H
    by_cases c7 : x20_4 = true
    ·subst c7; rw [if_pos rfl] at H; simp only [Option.some.injEq, Prod.mk.injEq] at H; obtain ⟨rfl, rfl⟩ := H
     go_wp2
     go_ret2
     exact ⟨pbb2_5, pbb2_3⟩
    ·replace c7 := Bool.eq_false_iff.mpr c7; subst c7; rw [if_neg (show ¬ (false = true) by decide)] at H
     by_cases c8 : a2 = 0
     ·rw [if_pos c8] at H; have c8b0 := bT_ c8; have c8b1 := bF_ c8; clear c8; simp only [Option.some.injEq, Prod.mk.injEq] at H; obtain ⟨rfl, rfl⟩ := H
      go_wp2
      go_ret2
      exact ⟨pbb2_5, pbb2_3⟩
     ·rw [if_neg c8] at H; have c8b0 := nF_ c8; have c8b1 := nT_ c8; obtain ⟨t101, A90, H⟩ := bnd H; have A9 := Aside0.mk A90; clear A90; obtain ⟨t102, A100, H⟩ := bnd H; have A10 := Aside0.mk A100; clear A100; obtain ⟨⟨t103, t104⟩, A110, H⟩ := bnd H; (try dsimp only at H); have A11 := Aside0.mk A110; clear A110; have HC12 := Aside0.mk H; clear H
      go_upto_region 6 with (first | ((with_reducible refine gate_callee (f := 76) rfl ?_); refine goesL_ (some 24) rfl rfl Tryd.func76 (by kernel_rfl) rfl #[.int .i64 a0] rfl pbb2_2 ?_; (with_reducible refine (F76.calls a0 t101 _ A9.out).mono ?_); rintro e w' ⟨rfl, ⟨nd, rfl⟩⟩; refine ⟨_, rfl, ?_⟩; (try (rw [drewN_self wc]; generalize hq_ : World.drewN wc _ = wc; have n0_ : Aside0 (Below w.heap.size w wc) := ⟨pbb4_0⟩; clear HB hq_; have HB := n0_; clear n0_))) | ((with_reducible refine gate_callee (f := 76) rfl ?_); refine goesL_ (some 26) rfl rfl Tryd.func76 (by kernel_rfl) rfl #[.int .i64 a1] rfl pbb2_2 ?_; (with_reducible refine (F76.calls a1 t102 _ A10.out).mono ?_); rintro e w' ⟨rfl, ⟨nd, rfl⟩⟩; refine ⟨_, rfl, ?_⟩; (try (rw [drewN_self wc]; generalize hq_ : World.drewN wc _ = wc; have n0_ : Aside0 (Below w.heap.size w wc) := ⟨pbb4_0⟩; clear HB hq_; have HB := n0_; clear n0_))) | ((with_reducible refine gate_callee (f := 75) rfl ?_); refine goesL_ (some 27) rfl rfl Tryd.func75 (by kernel_rfl) rfl #[.int .u64 t101, .int .u64 t102] rfl pbb2_2 ?_; (with_reducible refine (F75.calls t101 t102 t103 t104 _ A11.out).mono ?_); rintro e w13 ⟨rfl, hb⟩; refine ⟨_, rfl, ?_⟩; replace HB := Aside0.mk (below_step pbb2_3 hb); (try clear hb); (try clear hb2); (try clear hk); (try clear hi)) | ((with_reducible refine gate_dst (N := 10) rfl ?_); refine box_event ?hg (N := 10) ?hd (cs := #[.int .u64 0, .int .u64 0]) (t := 94) ?hr ?_; (case hd => rfl); (case hg => rfl); (case hr => first | (go_simp; done) | (go_simp; rfl)); intro gb105 hg w14 hbox hb; have BK105 := Aside0.mk (hbox); have GW105 := Aside0.mk ((pbb2_6 : w.heap.size ≤ gb105)); have GE105 := Aside0.mk ((pbb2_6 : w.heap.size ≤ gb105)); replace HB := Aside0.mk (below_step pbb2_3 hb); clear hb hbox hg; obtain ⟨hcz15_0, hcz15_1⟩ := cz2 BK105.out; obtain ⟨hfz15_0, hfz15_1⟩ := fz2 BK105.out))
      (try simp only [Act.put, List.setIfInBounds_toArray, List.set_cons_zero, List.set_cons_succ])
      go_cut [11] (fun v11 wc => ∃ (kq : Nat) (x11_11 : Bool), v11 = .bool x11_11 ∧ Aside0 (F66.j1 kq a2 a3 x11_11 t103 t104 = some (r1, r2)) ∧ Aside0 (kq ≤ kj4) ∧ Aside0 (wc.heap[gb105]? = some (.cells #[.int .u64 t103, .int .u64 t104] 94 (0, 0))) ∧ Aside0 (Below w.heap.size w wc))
      case first =>
       have H := HC12.out; clear HC12
       by_cases c16 : (!(t103 == 0) || (!(t104 == 0))) = true
       ·rw [if_pos c16] at H; have c16b0 : (!(t103 == 0) || (!(t104 == 0))) = true := c16; clear c16; (first | rw [c16b0] | (simp only [i64_w, i32_w]; rw [c16b0]) | skip); have H' := Aside0.mk H; clear H; obtain ⟨hcz17_0, hcz17_1⟩ := cz2 BK105.out; obtain ⟨hfz17_0, hfz17_1⟩ := fz2 BK105.out
        go_wp2
        go_meet
        case rel => exact ⟨_, ((((decide (a0 < 0)) != (decide (a1 < 0))) != (decide (a2 < 0)))), (by first | rfl | (simp; done) | (simp [*]; done) | (congr 1; generalize decide (a0 < 0) = q0_; generalize decide (a1 < 0) = q1_; generalize decide (a2 < 0) = q2_; revert q0_ q1_ q2_; decide)), H', ⟨by have := HJ4.out; first | omega | exact Nat.le_refl _⟩, ⟨by (with_reducible repeat (first | refine blk_drewN ?_ _ | refine blk_drew ?_ | refine blk_alloc ?_ _)); refine blk_put (cs := #[.int .u64 t103, .int .u64 0]) ?_ 1 _ rfl; (with_reducible repeat (first | refine blk_drewN ?_ _ | refine blk_drew ?_ | refine blk_alloc ?_ _)); refine blk_put (cs := #[.int .u64 0, .int .u64 0]) ?_ 0 _ rfl; (with_reducible repeat (first | refine blk_drewN ?_ _ | refine blk_drew ?_ | refine blk_alloc ?_ _)); exact BK105.out⟩, ⟨pbb4_1⟩⟩
       ·rw [if_neg c16] at H; have c16b0 : (!(t103 == 0) || (!(t104 == 0))) = false := by simpa using c16
        clear c16; (first | rw [c16b0] | (simp only [i64_w, i32_w]; rw [c16b0]) | skip); have H' := Aside0.mk H; clear H; obtain ⟨hcz18_0, hcz18_1⟩ := cz2 BK105.out; obtain ⟨hfz18_0, hfz18_1⟩ := fz2 BK105.out
        go_wp2
        go_meet
        case rel => exact ⟨_, (false), pbb2_0, H', ⟨by have := HJ4.out; first | omega | exact Nat.le_refl _⟩, ⟨by (with_reducible repeat (first | refine blk_drewN ?_ _ | refine blk_drew ?_ | refine blk_alloc ?_ _)); refine blk_put (cs := #[.int .u64 t103, .int .u64 0]) ?_ 1 _ rfl; (with_reducible repeat (first | refine blk_drewN ?_ _ | refine blk_drew ?_ | refine blk_alloc ?_ _)); refine blk_put (cs := #[.int .u64 0, .int .u64 0]) ?_ 0 _ rfl; (with_reducible repeat (first | refine blk_drewN ?_ _ | refine blk_drew ?_ | refine blk_alloc ?_ _)); exact BK105.out⟩, ⟨pbb4_1⟩⟩
      case rest =>
       as_aux_lemma =>
        clear HC12; obtain ⟨kq, x11_11, rfl, HA, HJ11, BK105, HB⟩ := hcut
        cases kq with
        | zero => exact absurd HA.out (by simp [F66.j1])
        | succ kj11 =>
         have H := HA.out; clear HA; simp only [F66.j1] at H; obtain ⟨t106, A190, H⟩ := bnd H; have A19 := Aside0.mk A190; clear A190; obtain ⟨⟨t107, t108, t109⟩, A200, H⟩ := bnd H; (try dsimp only at H); have A20 := Aside0.mk A200; clear A200
         by_cases c21 : t107 = 0
         ·rw [if_pos c21] at H; have c21b0 := bT_ c21; have c21b1 := bF_ c21; clear c21; obtain ⟨t111, A220, H⟩ := bnd H; have A22 := Aside0.mk A220; clear A220; obtain ⟨t112, A230, H⟩ := bnd H; have A23 := Aside0.mk A230; clear A230
          by_cases c24 : t112 = true
          ·subst c24; rw [if_pos rfl] at H
           by_cases c25 : (IntKind.u64.wrap (t108 + 1)) = 0
           ·rw [if_pos c25] at H; have c25b0 := bT_ c25; have c25b1 := bF_ c25; clear c25; simp only [Option.some.injEq, Prod.mk.injEq] at H; obtain ⟨rfl, rfl⟩ := H; (try go_wp2); replace BK105 := Aside0.mk (blk_drew BK105.out); replace HB := Aside0.mk (below_drew1 HB.out); refine start_ (n := 10) (S := fun w' => w'.cell? ⟨gb105, 0, none⟩ = some (.int .u64 t103) ∧ w'.cell? ⟨gb105, 1, none⟩ = some (.int .u64 t104)) (ds := []) (bq 10 0) (by kernel_rfl) rfl rfl ⟨(blk_cell BK105.out 0).trans rfl, (blk_cell BK105.out 1).trans rfl⟩ (fun hHeld => ?_); refine with_tabW F66.tab7 F66.bits7 (fun HT_ HW_ => ?_); generalize wc.drew = w26 at BK105 HB hHeld ⊢; refine pv_ 1 43 (bq 10 2) HT_ ?_; refine take_ (i := 0) (N := some 42) (v := ?_) (a' := ?_) (bq 10 3) rfl rfl (take_ofW HT_.out HW_.out (by kernel_rfl)) (fun _ _ _ h => h) (Or.inl ⟨by rfl, ?_⟩) hHeld ?_ ?_; rotate_left
            ·rintro w' ⟨s0, s1⟩; go_simp; (with_reducible rfl)
            rotate_left
            ·exact cbb2_0
            refine join_ (σ := Nat) 2 (bq 10 255) (fun s_ => [(44, .int .u64 t106), (45, .tuple #[.agg #[.int .u64 t107, .int .u64 t108], .int .u64 t109]), (12, .pointer (some ⟨s_, 0, none⟩)), (41, .tuple #[.agg #[.int .u64 t107, .int .u64 t108], .int .u64 t109]), (46, .agg #[.int .u64 t107, .int .u64 t108]), (47, .int .u64 t109)]) (fun s_ w' => (w'.cell? ⟨gb105, 0, none⟩ = some (.int .u64 t103) ∧ w'.cell? ⟨gb105, 1, none⟩ = some (.int .u64 t104)) ∧ (w'.heap[gb105]? = some (.cells #[.int .u64 t103, .int .u64 t104] 94 (0, 0))) ∧ (w'.heap[s_]? = some (.cells #[.int .u64 0, .int .u64 0] 94 (0, 0))) ∧ (w.heap.size ≤ s_) ∧ (w.heap.size ≤ s_) ∧ (gb105 ≠ s_) ∧ (s_ ≠ gb105) ∧ (Below w.heap.size w w')) ?_ ?_; rotate_left
            ·intro hCont; refine two_ (i := 2) (j := 7) (Ni := some 44) (Nj := some 12) (bq 10 7) (bq 10 131) rfl rfl rfl rfl (two_of HT_.out (by kernel_rfl)) (by decide) (by decide) (fun K hK => ?_) (fun K hK => ?_)
             ·skip
              refine goes_ Tryd.func76 (by kernel_rfl) rfl #[.int .i64 a2] (by rfl) rfl rfl pbb2_2 ?_; (with_reducible refine (F76.calls a2 t106 _ A19.out).mono ?_); rintro e w' ⟨rfl, ⟨nd, rfl⟩⟩; refine ⟨_, rfl, ?_⟩; refine hK.out _ _ ⟨(blk_cell BK105.out 0).trans rfl, (blk_cell BK105.out 1).trans rfl⟩ (fun hHeld => ?_); clear hK K; refine norm_ (a' := ?_) ?_ ?_; rotate_left
              ·show Act.put _ (some 44) _ = _; simp only [Act.put, List.setIfInBounds_toArray, List.set_cons_zero, List.set_cons_succ, i64_w, i32_w]
               rfl
              refine two_ (i := 3) (j := 7) (Ni := some 45) (Nj := some 12) (bq 10 15) (bq 10 135) rfl rfl rfl rfl (two_of HT_.out (by kernel_rfl)) (by decide) (by decide) (fun K hK => ?_) (fun K hK => ?_)
              ·skip
               refine goes_ Tryd.func77 (by kernel_rfl) rfl #[.agg #[.int .u64 t103, .int .u64 t104], .int .u64 t106] (by rfl) rfl rfl pbb2_2 ?_; (with_reducible refine (F77.calls t103 t104 t106 t107 t108 t109 _ A20.out).mono ?_); rintro e w27 ⟨rfl, hb⟩; refine ⟨_, rfl, ?_⟩; replace BK105 := Aside0.mk (blk_below (g := gb105) (o := .cells #[.int .u64 t103, .int .u64 t104] 94 (0, 0)) pbb4_2 hb); replace HB := Aside0.mk (below_step pbb4_1 hb); (try clear hb); (try clear hb2); (try clear hk); (try clear hi); refine hK.out _ _ ⟨(blk_cell BK105.out 0).trans rfl, (blk_cell BK105.out 1).trans rfl⟩ (fun hHeld => ?_); clear hK K; refine norm_ (a' := ?_) ?_ ?_; rotate_left
               ·show Act.put _ (some 45) _ = _; simp only [Act.put, List.setIfInBounds_toArray, List.set_cons_zero, List.set_cons_succ, i64_w, i32_w]
                rfl
               refine pv_ 4 41 (bq 10 31) HT_ ?_; refine pv_ 5 46 (bq 10 63) HT_ ?_; refine pv_ 6 47 (bq 10 127) HT_ ?_; refine one_ (i := 7) (N := some 12) (bq 10 255) rfl rfl (one_of HT_.out (by kernel_rfl)) (by decide) (fun K hK => ?_); refine box_step ?hg (N := 12) ?hd (cs := #[.int .u64 0, .int .u64 0]) (t := 94) ?hr ?_; (case hd => rfl); (case hg => rfl); (case hr => first | (go_simp; done) | (go_simp; rfl)); intro gb110 hg w28 hbox hb; have BK110 := Aside0.mk (hbox); have GW110 := Aside0.mk ((pbb4_3 : w.heap.size ≤ gb110)); have GE110 := Aside0.mk ((pbb4_3 : w.heap.size ≤ gb110)); replace HB := Aside0.mk (below_step pbb4_1 hb); have NB105_110 := Aside0.mk ((pbb4_4 : gb105 ≠ gb110)); have NB110_105 := Aside0.mk ((pbb4_5 : gb110 ≠ gb105)); replace BK105 := Aside0.mk (blk_below (g := gb105) (o := .cells #[.int .u64 t103, .int .u64 t104] 94 (0, 0)) pbb4_2 hb); clear hb hbox hg; refine hK.out _ _ ⟨(blk_cell BK105.out 0).trans rfl, (blk_cell BK105.out 1).trans rfl⟩ (fun hHeld => ?_); clear hK K; refine norm_ (a' := ?_) ?_ ?_; rotate_left
               ·show Act.put _ (some 12) _ = _; simp only [Act.put, List.setIfInBounds_toArray, List.set_cons_zero, List.set_cons_succ, i64_w, i32_w]
                rfl
               exact norm_ pbb4_6 (hCont (gb110) _ ⟨hHeld, pbb4_2, pbb4_7, GW110.out, GE110.out, NB105_110.out, NB110_105.out, pbb4_8⟩)
              ·skip
               refine box_step ?hg (N := 12) ?hd (cs := #[.int .u64 0, .int .u64 0]) (t := 94) ?hr ?_; (case hd => rfl); (case hg => rfl); (case hr => first | (go_simp; done) | (go_simp; rfl)); intro gb110 hg w27 hbox hb; have BK110 := Aside0.mk (hbox); have GW110 := Aside0.mk ((pbb4_3 : w.heap.size ≤ gb110)); have GE110 := Aside0.mk ((pbb4_3 : w.heap.size ≤ gb110)); replace HB := Aside0.mk (below_step pbb4_1 hb); have NB105_110 := Aside0.mk ((pbb4_4 : gb105 ≠ gb110)); have NB110_105 := Aside0.mk ((pbb4_5 : gb110 ≠ gb105)); replace BK105 := Aside0.mk (blk_below (g := gb105) (o := .cells #[.int .u64 t103, .int .u64 t104] 94 (0, 0)) pbb4_2 hb); clear hb hbox hg; refine hK.out _ _ ⟨(blk_cell BK105.out 0).trans rfl, (blk_cell BK105.out 1).trans rfl⟩ (fun hHeld => ?_); clear hK K; refine norm_ (a' := ?_) ?_ ?_; rotate_left
               ·show Act.put _ (some 12) _ = _; simp only [Act.put, List.setIfInBounds_toArray, List.set_cons_zero, List.set_cons_succ, i64_w, i32_w]
                rfl
               refine one_ (i := 3) (N := some 45) (bq 10 143) rfl rfl (one_of HT_.out (by kernel_rfl)) (by decide) (fun K hK => ?_); refine goes_ Tryd.func77 (by kernel_rfl) rfl #[.agg #[.int .u64 t103, .int .u64 t104], .int .u64 t106] (by rfl) rfl rfl pbb2_2 ?_; (with_reducible refine (F77.calls t103 t104 t106 t107 t108 t109 _ A20.out).mono ?_); rintro e w28 ⟨rfl, hb⟩; refine ⟨_, rfl, ?_⟩; replace BK105 := Aside0.mk (blk_below (g := gb105) (o := .cells #[.int .u64 t103, .int .u64 t104] 94 (0, 0)) pbb4_2 hb); replace BK110 := Aside0.mk (blk_below (g := gb110) (o := .cells #[.int .u64 0, .int .u64 0] 94 (0, 0)) pbb4_7 hb); replace HB := Aside0.mk (below_step pbb4_8 hb); (try clear hb); (try clear hb2); (try clear hk); (try clear hi); refine hK.out _ _ ⟨(blk_cell BK105.out 0).trans rfl, (blk_cell BK105.out 1).trans rfl⟩ (fun hHeld => ?_); clear hK K; refine norm_ (a' := ?_) ?_ ?_; rotate_left
               ·show Act.put _ (some 45) _ = _; simp only [Act.put, List.setIfInBounds_toArray, List.set_cons_zero, List.set_cons_succ, i64_w, i32_w]
                rfl
               refine pv_ 4 41 (bq 10 159) HT_ ?_; refine pv_ 5 46 (bq 10 191) HT_ ?_; refine pv_ 6 47 (bq 10 255) HT_ ?_; exact norm_ pbb4_6 (hCont (gb110) _ ⟨hHeld, pbb4_2, pbb4_7, GW110.out, GE110.out, NB105_110.out, NB110_105.out, pbb4_8⟩)
             ·skip
              refine box_step ?hg (N := 12) ?hd (cs := #[.int .u64 0, .int .u64 0]) (t := 94) ?hr ?_; (case hd => rfl); (case hg => rfl); (case hr => first | (go_simp; done) | (go_simp; rfl)); intro gb110 hg w27 hbox hb; have BK110 := Aside0.mk (hbox); have GW110 := Aside0.mk ((pbb4_3 : w.heap.size ≤ gb110)); have GE110 := Aside0.mk ((pbb4_3 : w.heap.size ≤ gb110)); replace HB := Aside0.mk (below_step pbb4_1 hb); have NB105_110 := Aside0.mk ((pbb4_4 : gb105 ≠ gb110)); have NB110_105 := Aside0.mk ((pbb4_5 : gb110 ≠ gb105)); replace BK105 := Aside0.mk (blk_below (g := gb105) (o := .cells #[.int .u64 t103, .int .u64 t104] 94 (0, 0)) pbb4_2 hb); clear hb hbox hg; refine hK.out _ _ ⟨(blk_cell BK105.out 0).trans rfl, (blk_cell BK105.out 1).trans rfl⟩ (fun hHeld => ?_); clear hK K; refine norm_ (a' := ?_) ?_ ?_; rotate_left
              ·show Act.put _ (some 12) _ = _; simp only [Act.put, List.setIfInBounds_toArray, List.set_cons_zero, List.set_cons_succ, i64_w, i32_w]
               rfl
              refine one_ (i := 2) (N := some 44) (bq 10 135) rfl rfl (one_of HT_.out (by kernel_rfl)) (by decide) (fun K hK => ?_); refine goes_ Tryd.func76 (by kernel_rfl) rfl #[.int .i64 a2] (by rfl) rfl rfl pbb2_2 ?_; (with_reducible refine (F76.calls a2 t106 _ A19.out).mono ?_); rintro e w' ⟨rfl, ⟨nd, rfl⟩⟩; refine ⟨_, rfl, ?_⟩; refine hK.out _ _ ⟨(blk_cell BK105.out 0).trans rfl, (blk_cell BK105.out 1).trans rfl⟩ (fun hHeld => ?_); clear hK K; refine norm_ (a' := ?_) ?_ ?_; rotate_left
              ·show Act.put _ (some 44) _ = _; simp only [Act.put, List.setIfInBounds_toArray, List.set_cons_zero, List.set_cons_succ, i64_w, i32_w]
               rfl
              refine one_ (i := 3) (N := some 45) (bq 10 143) rfl rfl (one_of HT_.out (by kernel_rfl)) (by decide) (fun K hK => ?_); refine goes_ Tryd.func77 (by kernel_rfl) rfl #[.agg #[.int .u64 t103, .int .u64 t104], .int .u64 t106] (by rfl) rfl rfl pbb2_2 ?_; (with_reducible refine (F77.calls t103 t104 t106 t107 t108 t109 _ A20.out).mono ?_); rintro e w28 ⟨rfl, hb⟩; refine ⟨_, rfl, ?_⟩; replace BK105 := Aside0.mk (blk_below (g := gb105) (o := .cells #[.int .u64 t103, .int .u64 t104] 94 (0, 0)) pbb4_2 hb); replace BK110 := Aside0.mk (blk_below (g := gb110) (o := .cells #[.int .u64 0, .int .u64 0] 94 (0, 0)) pbb4_7 hb); replace HB := Aside0.mk (below_step pbb4_8 hb); (try clear hb); (try clear hb2); (try clear hk); (try clear hi); refine hK.out _ _ ⟨(blk_cell BK105.out 0).trans rfl, (blk_cell BK105.out 1).trans rfl⟩ (fun hHeld => ?_); clear hK K; refine norm_ (a' := ?_) ?_ ?_; rotate_left
              ·show Act.put _ (some 45) _ = _; simp only [Act.put, List.setIfInBounds_toArray, List.set_cons_zero, List.set_cons_succ, i64_w, i32_w]
               rfl
              refine pv_ 4 41 (bq 10 159) HT_ ?_; refine pv_ 5 46 (bq 10 191) HT_ ?_; refine pv_ 6 47 (bq 10 255) HT_ ?_; exact norm_ pbb4_6 (hCont (gb110) _ ⟨hHeld, pbb4_2, pbb4_7, GW110.out, GE110.out, NB105_110.out, NB110_105.out, pbb4_8⟩)
            rintro gb110 w29 ⟨hS_, h0_, h1_, h2_, h3_, h4_, h5_, h6_⟩; have n0_ : Aside0 (w29.heap[gb105]? = some (.cells #[.int .u64 t103, .int .u64 t104] 94 (0, 0))) := ⟨h0_⟩; have n1_ : Aside0 (w29.heap[gb110]? = some (.cells #[.int .u64 0, .int .u64 0] 94 (0, 0))) := ⟨h1_⟩; have n2_ : Aside0 (w.heap.size ≤ gb110) := ⟨h2_⟩; have n3_ : Aside0 (w.heap.size ≤ gb110) := ⟨h3_⟩; have n4_ : Aside0 (gb105 ≠ gb110) := ⟨h4_⟩; have n5_ : Aside0 (gb110 ≠ gb105) := ⟨h5_⟩; have n6_ : Aside0 (Below w.heap.size w w29) := ⟨h6_⟩; clear BK105; clear HB; clear h0_ h1_ h2_ h3_ h4_ h5_ h6_; have BK105 := n0_; have BK110 := n1_; have GW110 := n2_; have GE110 := n3_; have NB105_110 := n4_; have NB110_105 := n5_; have HB := n6_; clear n0_ n1_ n2_ n3_ n4_ n5_ n6_; have hHeld : w29.cell? ⟨gb105, 0, none⟩ = some (.int .u64 t103) ∧ w29.cell? ⟨gb105, 1, none⟩ = some (.int .u64 t104) := hS_; refine norm_ (a' := ?_) ?_ ?_; rotate_left
            ·simp only [putAll, Act.put, List.setIfInBounds_toArray, List.set_cons_zero, List.set_cons_succ]
             rfl
            refine one_ (i := 8) (N := none) (bq 10 511) rfl rfl (one_of HT_.out (by kernel_rfl)) (by decide) (fun K hK => ?_); have hs30 : w29.cell? ⟨gb110, 0, none⟩ = some (.int .u64 0) := (blk_cell BK110.out 0).trans rfl; have hfs30 := blk_frozen BK110.out 0; have hns30_0 := NB105_110.out; have hms30_0 := NB110_105.out; have hs31 : w29.cell? ⟨gb110, 1, none⟩ = some (.int .u64 0) := (blk_cell BK110.out 1).trans rfl; have hfs31 := blk_frozen BK110.out 1; have hns31_0 := NB105_110.out; have hms31_0 := NB110_105.out; refine skip_ (w1 := ?_) (by rfl) rfl ?_ ?_; rotate_left
            ·go_simp
             rfl
            refine hK.out _ _ ⟨((cell_far (p := ⟨gb110, _, none⟩) NB105_110.out _).trans (((cell_far (p := ⟨gb110, _, none⟩) NB105_110.out _).trans (hHeld.1)))), ((cell_far (p := ⟨gb110, _, none⟩) NB105_110.out _).trans (((cell_far (p := ⟨gb110, _, none⟩) NB105_110.out _).trans (hHeld.2))))⟩ (fun hHeld => ?_); clear hK K; refine pv_ 9 13 (bq 10 1023) HT_ ?_; refine done_ (done_of HT_.out (by kernel_rfl)) ?_; have hnb32 := NB110_105.out; have hnc32 := NB105_110.out; obtain ⟨hcz33_0, hcz33_1⟩ := cz2 BK110.out; obtain ⟨hfz33_0, hfz33_1⟩ := fz2 BK110.out; (try go_wp2_with (first | ((with_reducible refine gate_callee (f := 76) rfl ?_); refine goesL_ (some 60) rfl rfl Tryd.func76 (by kernel_rfl) rfl #[.int .i64 a2] rfl pbb2_2 ?_; (with_reducible refine (F76.calls a2 t111 _ A22.out).mono ?_); rintro e w' ⟨rfl, ⟨nd, rfl⟩⟩; refine ⟨_, rfl, ?_⟩) | ((with_reducible refine gate_callee (f := 78) rfl ?_); refine goesL_ (some 61) rfl rfl Tryd.func78 (by kernel_rfl) rfl #[.int .i64 a3, .bool x11_11, .bool ((Int.tmod t108 2) == 1), .int .u64 t109, .int .u64 t111] rfl pbb2_2 ?_; (with_reducible refine (F78.calls a3 x11_11 ((Int.tmod t108 2) == 1) t109 t111 true _ A23.out).mono ?_); rintro e w' ⟨rfl, ⟨nd, rfl⟩⟩; refine ⟨_, rfl, ?_⟩)))
            go_ret2
            exact ⟨pbb2_5, pbb4_8⟩
           ·rw [if_neg c25] at H; have c25b0 := nF_ c25; have c25b1 := nT_ c25; obtain ⟨⟨t113, t114⟩, A340, H⟩ := bnd H; (try dsimp only at H); have A34 := Aside0.mk A340; clear A340; simp only [Option.some.injEq, Prod.mk.injEq] at H; obtain ⟨rfl, rfl⟩ := H; (try go_wp2); replace BK105 := Aside0.mk (blk_drew BK105.out); replace HB := Aside0.mk (below_drew1 HB.out); refine start_ (n := 10) (S := fun w' => w'.cell? ⟨gb105, 0, none⟩ = some (.int .u64 t103) ∧ w'.cell? ⟨gb105, 1, none⟩ = some (.int .u64 t104)) (ds := []) (bq 10 0) (by kernel_rfl) rfl rfl ⟨(blk_cell BK105.out 0).trans rfl, (blk_cell BK105.out 1).trans rfl⟩ (fun hHeld => ?_); refine with_tabW F66.tab7 F66.bits7 (fun HT_ HW_ => ?_); generalize wc.drew = w35 at BK105 HB hHeld ⊢; refine pv_ 1 43 (bq 10 2) HT_ ?_; refine take_ (i := 0) (N := some 42) (v := ?_) (a' := ?_) (bq 10 3) rfl rfl (take_ofW HT_.out HW_.out (by kernel_rfl)) (fun _ _ _ h => h) (Or.inl ⟨by rfl, ?_⟩) hHeld ?_ ?_; rotate_left
            ·rintro w' ⟨s0, s1⟩; go_simp; (with_reducible rfl)
            rotate_left
            ·exact cbb2_0
            refine join_ (σ := Nat) 2 (bq 10 255) (fun s_ => [(44, .int .u64 t106), (45, .tuple #[.agg #[.int .u64 t107, .int .u64 t108], .int .u64 t109]), (12, .pointer (some ⟨s_, 0, none⟩)), (41, .tuple #[.agg #[.int .u64 t107, .int .u64 t108], .int .u64 t109]), (46, .agg #[.int .u64 t107, .int .u64 t108]), (47, .int .u64 t109)]) (fun s_ w' => (w'.cell? ⟨gb105, 0, none⟩ = some (.int .u64 t103) ∧ w'.cell? ⟨gb105, 1, none⟩ = some (.int .u64 t104)) ∧ (w'.heap[gb105]? = some (.cells #[.int .u64 t103, .int .u64 t104] 94 (0, 0))) ∧ (w'.heap[s_]? = some (.cells #[.int .u64 0, .int .u64 0] 94 (0, 0))) ∧ (w.heap.size ≤ s_) ∧ (w.heap.size ≤ s_) ∧ (gb105 ≠ s_) ∧ (s_ ≠ gb105) ∧ (Below w.heap.size w w')) ?_ ?_; rotate_left
            ·intro hCont; refine two_ (i := 2) (j := 7) (Ni := some 44) (Nj := some 12) (bq 10 7) (bq 10 131) rfl rfl rfl rfl (two_of HT_.out (by kernel_rfl)) (by decide) (by decide) (fun K hK => ?_) (fun K hK => ?_)
             ·skip
              refine goes_ Tryd.func76 (by kernel_rfl) rfl #[.int .i64 a2] (by rfl) rfl rfl pbb2_2 ?_; (with_reducible refine (F76.calls a2 t106 _ A19.out).mono ?_); rintro e w' ⟨rfl, ⟨nd, rfl⟩⟩; refine ⟨_, rfl, ?_⟩; refine hK.out _ _ ⟨(blk_cell BK105.out 0).trans rfl, (blk_cell BK105.out 1).trans rfl⟩ (fun hHeld => ?_); clear hK K; refine norm_ (a' := ?_) ?_ ?_; rotate_left
              ·show Act.put _ (some 44) _ = _; simp only [Act.put, List.setIfInBounds_toArray, List.set_cons_zero, List.set_cons_succ, i64_w, i32_w]
               rfl
              refine two_ (i := 3) (j := 7) (Ni := some 45) (Nj := some 12) (bq 10 15) (bq 10 135) rfl rfl rfl rfl (two_of HT_.out (by kernel_rfl)) (by decide) (by decide) (fun K hK => ?_) (fun K hK => ?_)
              ·skip
               refine goes_ Tryd.func77 (by kernel_rfl) rfl #[.agg #[.int .u64 t103, .int .u64 t104], .int .u64 t106] (by rfl) rfl rfl pbb2_2 ?_; (with_reducible refine (F77.calls t103 t104 t106 t107 t108 t109 _ A20.out).mono ?_); rintro e w36 ⟨rfl, hb⟩; refine ⟨_, rfl, ?_⟩; replace BK105 := Aside0.mk (blk_below (g := gb105) (o := .cells #[.int .u64 t103, .int .u64 t104] 94 (0, 0)) pbb4_2 hb); replace HB := Aside0.mk (below_step pbb4_1 hb); (try clear hb); (try clear hb2); (try clear hk); (try clear hi); refine hK.out _ _ ⟨(blk_cell BK105.out 0).trans rfl, (blk_cell BK105.out 1).trans rfl⟩ (fun hHeld => ?_); clear hK K; refine norm_ (a' := ?_) ?_ ?_; rotate_left
               ·show Act.put _ (some 45) _ = _; simp only [Act.put, List.setIfInBounds_toArray, List.set_cons_zero, List.set_cons_succ, i64_w, i32_w]
                rfl
               refine pv_ 4 41 (bq 10 31) HT_ ?_; refine pv_ 5 46 (bq 10 63) HT_ ?_; refine pv_ 6 47 (bq 10 127) HT_ ?_; refine one_ (i := 7) (N := some 12) (bq 10 255) rfl rfl (one_of HT_.out (by kernel_rfl)) (by decide) (fun K hK => ?_); refine box_step ?hg (N := 12) ?hd (cs := #[.int .u64 0, .int .u64 0]) (t := 94) ?hr ?_; (case hd => rfl); (case hg => rfl); (case hr => first | (go_simp; done) | (go_simp; rfl)); intro gb110 hg w37 hbox hb; have BK110 := Aside0.mk (hbox); have GW110 := Aside0.mk ((pbb4_3 : w.heap.size ≤ gb110)); have GE110 := Aside0.mk ((pbb4_3 : w.heap.size ≤ gb110)); replace HB := Aside0.mk (below_step pbb4_1 hb); have NB105_110 := Aside0.mk ((pbb4_4 : gb105 ≠ gb110)); have NB110_105 := Aside0.mk ((pbb4_5 : gb110 ≠ gb105)); replace BK105 := Aside0.mk (blk_below (g := gb105) (o := .cells #[.int .u64 t103, .int .u64 t104] 94 (0, 0)) pbb4_2 hb); clear hb hbox hg; refine hK.out _ _ ⟨(blk_cell BK105.out 0).trans rfl, (blk_cell BK105.out 1).trans rfl⟩ (fun hHeld => ?_); clear hK K; refine norm_ (a' := ?_) ?_ ?_; rotate_left
               ·show Act.put _ (some 12) _ = _; simp only [Act.put, List.setIfInBounds_toArray, List.set_cons_zero, List.set_cons_succ, i64_w, i32_w]
                rfl
               exact norm_ pbb4_6 (hCont (gb110) _ ⟨hHeld, pbb4_2, pbb4_7, GW110.out, GE110.out, NB105_110.out, NB110_105.out, pbb4_8⟩)
              ·skip
               refine box_step ?hg (N := 12) ?hd (cs := #[.int .u64 0, .int .u64 0]) (t := 94) ?hr ?_; (case hd => rfl); (case hg => rfl); (case hr => first | (go_simp; done) | (go_simp; rfl)); intro gb110 hg w36 hbox hb; have BK110 := Aside0.mk (hbox); have GW110 := Aside0.mk ((pbb4_3 : w.heap.size ≤ gb110)); have GE110 := Aside0.mk ((pbb4_3 : w.heap.size ≤ gb110)); replace HB := Aside0.mk (below_step pbb4_1 hb); have NB105_110 := Aside0.mk ((pbb4_4 : gb105 ≠ gb110)); have NB110_105 := Aside0.mk ((pbb4_5 : gb110 ≠ gb105)); replace BK105 := Aside0.mk (blk_below (g := gb105) (o := .cells #[.int .u64 t103, .int .u64 t104] 94 (0, 0)) pbb4_2 hb); clear hb hbox hg; refine hK.out _ _ ⟨(blk_cell BK105.out 0).trans rfl, (blk_cell BK105.out 1).trans rfl⟩ (fun hHeld => ?_); clear hK K; refine norm_ (a' := ?_) ?_ ?_; rotate_left
               ·show Act.put _ (some 12) _ = _; simp only [Act.put, List.setIfInBounds_toArray, List.set_cons_zero, List.set_cons_succ, i64_w, i32_w]
                rfl
               refine one_ (i := 3) (N := some 45) (bq 10 143) rfl rfl (one_of HT_.out (by kernel_rfl)) (by decide) (fun K hK => ?_); refine goes_ Tryd.func77 (by kernel_rfl) rfl #[.agg #[.int .u64 t103, .int .u64 t104], .int .u64 t106] (by rfl) rfl rfl pbb2_2 ?_; (with_reducible refine (F77.calls t103 t104 t106 t107 t108 t109 _ A20.out).mono ?_); rintro e w37 ⟨rfl, hb⟩; refine ⟨_, rfl, ?_⟩; replace BK105 := Aside0.mk (blk_below (g := gb105) (o := .cells #[.int .u64 t103, .int .u64 t104] 94 (0, 0)) pbb4_2 hb); replace BK110 := Aside0.mk (blk_below (g := gb110) (o := .cells #[.int .u64 0, .int .u64 0] 94 (0, 0)) pbb4_7 hb); replace HB := Aside0.mk (below_step pbb4_8 hb); (try clear hb); (try clear hb2); (try clear hk); (try clear hi); refine hK.out _ _ ⟨(blk_cell BK105.out 0).trans rfl, (blk_cell BK105.out 1).trans rfl⟩ (fun hHeld => ?_); clear hK K; refine norm_ (a' := ?_) ?_ ?_; rotate_left
               ·show Act.put _ (some 45) _ = _; simp only [Act.put, List.setIfInBounds_toArray, List.set_cons_zero, List.set_cons_succ, i64_w, i32_w]
                rfl
               refine pv_ 4 41 (bq 10 159) HT_ ?_; refine pv_ 5 46 (bq 10 191) HT_ ?_; refine pv_ 6 47 (bq 10 255) HT_ ?_; exact norm_ pbb4_6 (hCont (gb110) _ ⟨hHeld, pbb4_2, pbb4_7, GW110.out, GE110.out, NB105_110.out, NB110_105.out, pbb4_8⟩)
             ·skip
              refine box_step ?hg (N := 12) ?hd (cs := #[.int .u64 0, .int .u64 0]) (t := 94) ?hr ?_; (case hd => rfl); (case hg => rfl); (case hr => first | (go_simp; done) | (go_simp; rfl)); intro gb110 hg w36 hbox hb; have BK110 := Aside0.mk (hbox); have GW110 := Aside0.mk ((pbb4_3 : w.heap.size ≤ gb110)); have GE110 := Aside0.mk ((pbb4_3 : w.heap.size ≤ gb110)); replace HB := Aside0.mk (below_step pbb4_1 hb); have NB105_110 := Aside0.mk ((pbb4_4 : gb105 ≠ gb110)); have NB110_105 := Aside0.mk ((pbb4_5 : gb110 ≠ gb105)); replace BK105 := Aside0.mk (blk_below (g := gb105) (o := .cells #[.int .u64 t103, .int .u64 t104] 94 (0, 0)) pbb4_2 hb); clear hb hbox hg; refine hK.out _ _ ⟨(blk_cell BK105.out 0).trans rfl, (blk_cell BK105.out 1).trans rfl⟩ (fun hHeld => ?_); clear hK K; refine norm_ (a' := ?_) ?_ ?_; rotate_left
              ·show Act.put _ (some 12) _ = _; simp only [Act.put, List.setIfInBounds_toArray, List.set_cons_zero, List.set_cons_succ, i64_w, i32_w]
               rfl
              refine one_ (i := 2) (N := some 44) (bq 10 135) rfl rfl (one_of HT_.out (by kernel_rfl)) (by decide) (fun K hK => ?_); refine goes_ Tryd.func76 (by kernel_rfl) rfl #[.int .i64 a2] (by rfl) rfl rfl pbb2_2 ?_; (with_reducible refine (F76.calls a2 t106 _ A19.out).mono ?_); rintro e w' ⟨rfl, ⟨nd, rfl⟩⟩; refine ⟨_, rfl, ?_⟩; refine hK.out _ _ ⟨(blk_cell BK105.out 0).trans rfl, (blk_cell BK105.out 1).trans rfl⟩ (fun hHeld => ?_); clear hK K; refine norm_ (a' := ?_) ?_ ?_; rotate_left
              ·show Act.put _ (some 44) _ = _; simp only [Act.put, List.setIfInBounds_toArray, List.set_cons_zero, List.set_cons_succ, i64_w, i32_w]
               rfl
              refine one_ (i := 3) (N := some 45) (bq 10 143) rfl rfl (one_of HT_.out (by kernel_rfl)) (by decide) (fun K hK => ?_); refine goes_ Tryd.func77 (by kernel_rfl) rfl #[.agg #[.int .u64 t103, .int .u64 t104], .int .u64 t106] (by rfl) rfl rfl pbb2_2 ?_; (with_reducible refine (F77.calls t103 t104 t106 t107 t108 t109 _ A20.out).mono ?_); rintro e w37 ⟨rfl, hb⟩; refine ⟨_, rfl, ?_⟩; replace BK105 := Aside0.mk (blk_below (g := gb105) (o := .cells #[.int .u64 t103, .int .u64 t104] 94 (0, 0)) pbb4_2 hb); replace BK110 := Aside0.mk (blk_below (g := gb110) (o := .cells #[.int .u64 0, .int .u64 0] 94 (0, 0)) pbb4_7 hb); replace HB := Aside0.mk (below_step pbb4_8 hb); (try clear hb); (try clear hb2); (try clear hk); (try clear hi); refine hK.out _ _ ⟨(blk_cell BK105.out 0).trans rfl, (blk_cell BK105.out 1).trans rfl⟩ (fun hHeld => ?_); clear hK K; refine norm_ (a' := ?_) ?_ ?_; rotate_left
              ·show Act.put _ (some 45) _ = _; simp only [Act.put, List.setIfInBounds_toArray, List.set_cons_zero, List.set_cons_succ, i64_w, i32_w]
               rfl
              refine pv_ 4 41 (bq 10 159) HT_ ?_; refine pv_ 5 46 (bq 10 191) HT_ ?_; refine pv_ 6 47 (bq 10 255) HT_ ?_; exact norm_ pbb4_6 (hCont (gb110) _ ⟨hHeld, pbb4_2, pbb4_7, GW110.out, GE110.out, NB105_110.out, NB110_105.out, pbb4_8⟩)
            rintro gb110 w38 ⟨hS_, h0_, h1_, h2_, h3_, h4_, h5_, h6_⟩; have n0_ : Aside0 (w38.heap[gb105]? = some (.cells #[.int .u64 t103, .int .u64 t104] 94 (0, 0))) := ⟨h0_⟩; have n1_ : Aside0 (w38.heap[gb110]? = some (.cells #[.int .u64 0, .int .u64 0] 94 (0, 0))) := ⟨h1_⟩; have n2_ : Aside0 (w.heap.size ≤ gb110) := ⟨h2_⟩; have n3_ : Aside0 (w.heap.size ≤ gb110) := ⟨h3_⟩; have n4_ : Aside0 (gb105 ≠ gb110) := ⟨h4_⟩; have n5_ : Aside0 (gb110 ≠ gb105) := ⟨h5_⟩; have n6_ : Aside0 (Below w.heap.size w w38) := ⟨h6_⟩; clear BK105; clear HB; clear h0_ h1_ h2_ h3_ h4_ h5_ h6_; have BK105 := n0_; have BK110 := n1_; have GW110 := n2_; have GE110 := n3_; have NB105_110 := n4_; have NB110_105 := n5_; have HB := n6_; clear n0_ n1_ n2_ n3_ n4_ n5_ n6_; have hHeld : w38.cell? ⟨gb105, 0, none⟩ = some (.int .u64 t103) ∧ w38.cell? ⟨gb105, 1, none⟩ = some (.int .u64 t104) := hS_; refine norm_ (a' := ?_) ?_ ?_; rotate_left
            ·simp only [putAll, Act.put, List.setIfInBounds_toArray, List.set_cons_zero, List.set_cons_succ]
             rfl
            refine one_ (i := 8) (N := none) (bq 10 511) rfl rfl (one_of HT_.out (by kernel_rfl)) (by decide) (fun K hK => ?_); have hs39 : w38.cell? ⟨gb110, 0, none⟩ = some (.int .u64 0) := (blk_cell BK110.out 0).trans rfl; have hfs39 := blk_frozen BK110.out 0; have hns39_0 := NB105_110.out; have hms39_0 := NB110_105.out; have hs40 : w38.cell? ⟨gb110, 1, none⟩ = some (.int .u64 0) := (blk_cell BK110.out 1).trans rfl; have hfs40 := blk_frozen BK110.out 1; have hns40_0 := NB105_110.out; have hms40_0 := NB110_105.out; refine skip_ (w1 := ?_) (by rfl) rfl ?_ ?_; rotate_left
            ·go_simp
             rfl
            refine hK.out _ _ ⟨((cell_far (p := ⟨gb110, _, none⟩) NB105_110.out _).trans (((cell_far (p := ⟨gb110, _, none⟩) NB105_110.out _).trans (hHeld.1)))), ((cell_far (p := ⟨gb110, _, none⟩) NB105_110.out _).trans (((cell_far (p := ⟨gb110, _, none⟩) NB105_110.out _).trans (hHeld.2))))⟩ (fun hHeld => ?_); clear hK K; refine pv_ 9 13 (bq 10 1023) HT_ ?_; refine done_ (done_of HT_.out (by kernel_rfl)) ?_; have hnb41 := NB110_105.out; have hnc41 := NB105_110.out; obtain ⟨hcz42_0, hcz42_1⟩ := cz2 BK110.out; obtain ⟨hfz42_0, hfz42_1⟩ := fz2 BK110.out; (try go_wp2_with (first | ((with_reducible refine gate_callee (f := 76) rfl ?_); refine goesL_ (some 60) rfl rfl Tryd.func76 (by kernel_rfl) rfl #[.int .i64 a2] rfl pbb2_2 ?_; (with_reducible refine (F76.calls a2 t111 _ A22.out).mono ?_); rintro e w' ⟨rfl, ⟨nd, rfl⟩⟩; refine ⟨_, rfl, ?_⟩) | ((with_reducible refine gate_callee (f := 78) rfl ?_); refine goesL_ (some 61) rfl rfl Tryd.func78 (by kernel_rfl) rfl #[.int .i64 a3, .bool x11_11, .bool ((Int.tmod t108 2) == 1), .int .u64 t109, .int .u64 t111] rfl pbb2_2 ?_; (with_reducible refine (F78.calls a3 x11_11 ((Int.tmod t108 2) == 1) t109 t111 true _ A23.out).mono ?_); rintro e w' ⟨rfl, ⟨nd, rfl⟩⟩; refine ⟨_, rfl, ?_⟩) | ((with_reducible refine gate_callee (f := 79) rfl ?_); refine goesL_ (some 68) rfl rfl Tryd.func79 (by kernel_rfl) rfl #[.bool x11_11, .int .u64 (IntKind.u64.wrap (t108 + 1))] rfl pbb2_2 ?_; (with_reducible refine (F79.calls x11_11 (IntKind.u64.wrap (t108 + 1)) t113 t114 _ A34.out).mono ?_); rintro e w' ⟨rfl, ⟨nd, rfl⟩⟩; refine ⟨_, rfl, ?_⟩)))
            go_ret2
            exact ⟨pbb2_5, pbb4_8⟩
          ·replace c24 := Bool.eq_false_iff.mpr c24; subst c24; rw [if_neg (show ¬ (false = true) by decide)] at H; obtain ⟨⟨t115, t116⟩, A430, H⟩ := bnd H; (try dsimp only at H); have A43 := Aside0.mk A430; clear A430; simp only [Option.some.injEq, Prod.mk.injEq] at H; obtain ⟨rfl, rfl⟩ := H; (try go_wp2); replace BK105 := Aside0.mk (blk_drew BK105.out); replace HB := Aside0.mk (below_drew1 HB.out); refine start_ (n := 10) (S := fun w' => w'.cell? ⟨gb105, 0, none⟩ = some (.int .u64 t103) ∧ w'.cell? ⟨gb105, 1, none⟩ = some (.int .u64 t104)) (ds := []) (bq 10 0) (by kernel_rfl) rfl rfl ⟨(blk_cell BK105.out 0).trans rfl, (blk_cell BK105.out 1).trans rfl⟩ (fun hHeld => ?_); refine with_tabW F66.tab7 F66.bits7 (fun HT_ HW_ => ?_); generalize wc.drew = w44 at BK105 HB hHeld ⊢; refine pv_ 1 43 (bq 10 2) HT_ ?_; refine take_ (i := 0) (N := some 42) (v := ?_) (a' := ?_) (bq 10 3) rfl rfl (take_ofW HT_.out HW_.out (by kernel_rfl)) (fun _ _ _ h => h) (Or.inl ⟨by rfl, ?_⟩) hHeld ?_ ?_; rotate_left
           ·rintro w' ⟨s0, s1⟩; go_simp; (with_reducible rfl)
           rotate_left
           ·exact cbb2_0
           refine join_ (σ := Nat) 2 (bq 10 255) (fun s_ => [(44, .int .u64 t106), (45, .tuple #[.agg #[.int .u64 t107, .int .u64 t108], .int .u64 t109]), (12, .pointer (some ⟨s_, 0, none⟩)), (41, .tuple #[.agg #[.int .u64 t107, .int .u64 t108], .int .u64 t109]), (46, .agg #[.int .u64 t107, .int .u64 t108]), (47, .int .u64 t109)]) (fun s_ w' => (w'.cell? ⟨gb105, 0, none⟩ = some (.int .u64 t103) ∧ w'.cell? ⟨gb105, 1, none⟩ = some (.int .u64 t104)) ∧ (w'.heap[gb105]? = some (.cells #[.int .u64 t103, .int .u64 t104] 94 (0, 0))) ∧ (w'.heap[s_]? = some (.cells #[.int .u64 0, .int .u64 0] 94 (0, 0))) ∧ (w.heap.size ≤ s_) ∧ (w.heap.size ≤ s_) ∧ (gb105 ≠ s_) ∧ (s_ ≠ gb105) ∧ (Below w.heap.size w w')) ?_ ?_; rotate_left
           ·intro hCont; refine two_ (i := 2) (j := 7) (Ni := some 44) (Nj := some 12) (bq 10 7) (bq 10 131) rfl rfl rfl rfl (two_of HT_.out (by kernel_rfl)) (by decide) (by decide) (fun K hK => ?_) (fun K hK => ?_)
            ·skip
             refine goes_ Tryd.func76 (by kernel_rfl) rfl #[.int .i64 a2] (by rfl) rfl rfl pbb2_2 ?_; (with_reducible refine (F76.calls a2 t106 _ A19.out).mono ?_); rintro e w' ⟨rfl, ⟨nd, rfl⟩⟩; refine ⟨_, rfl, ?_⟩; refine hK.out _ _ ⟨(blk_cell BK105.out 0).trans rfl, (blk_cell BK105.out 1).trans rfl⟩ (fun hHeld => ?_); clear hK K; refine norm_ (a' := ?_) ?_ ?_; rotate_left
             ·show Act.put _ (some 44) _ = _; simp only [Act.put, List.setIfInBounds_toArray, List.set_cons_zero, List.set_cons_succ, i64_w, i32_w]
              rfl
             refine two_ (i := 3) (j := 7) (Ni := some 45) (Nj := some 12) (bq 10 15) (bq 10 135) rfl rfl rfl rfl (two_of HT_.out (by kernel_rfl)) (by decide) (by decide) (fun K hK => ?_) (fun K hK => ?_)
             ·skip
              refine goes_ Tryd.func77 (by kernel_rfl) rfl #[.agg #[.int .u64 t103, .int .u64 t104], .int .u64 t106] (by rfl) rfl rfl pbb2_2 ?_; (with_reducible refine (F77.calls t103 t104 t106 t107 t108 t109 _ A20.out).mono ?_); rintro e w45 ⟨rfl, hb⟩; refine ⟨_, rfl, ?_⟩; replace BK105 := Aside0.mk (blk_below (g := gb105) (o := .cells #[.int .u64 t103, .int .u64 t104] 94 (0, 0)) pbb4_2 hb); replace HB := Aside0.mk (below_step pbb4_1 hb); (try clear hb); (try clear hb2); (try clear hk); (try clear hi); refine hK.out _ _ ⟨(blk_cell BK105.out 0).trans rfl, (blk_cell BK105.out 1).trans rfl⟩ (fun hHeld => ?_); clear hK K; refine norm_ (a' := ?_) ?_ ?_; rotate_left
              ·show Act.put _ (some 45) _ = _; simp only [Act.put, List.setIfInBounds_toArray, List.set_cons_zero, List.set_cons_succ, i64_w, i32_w]
               rfl
              refine pv_ 4 41 (bq 10 31) HT_ ?_; refine pv_ 5 46 (bq 10 63) HT_ ?_; refine pv_ 6 47 (bq 10 127) HT_ ?_; refine one_ (i := 7) (N := some 12) (bq 10 255) rfl rfl (one_of HT_.out (by kernel_rfl)) (by decide) (fun K hK => ?_); refine box_step ?hg (N := 12) ?hd (cs := #[.int .u64 0, .int .u64 0]) (t := 94) ?hr ?_; (case hd => rfl); (case hg => rfl); (case hr => first | (go_simp; done) | (go_simp; rfl)); intro gb110 hg w46 hbox hb; have BK110 := Aside0.mk (hbox); have GW110 := Aside0.mk ((pbb4_3 : w.heap.size ≤ gb110)); have GE110 := Aside0.mk ((pbb4_3 : w.heap.size ≤ gb110)); replace HB := Aside0.mk (below_step pbb4_1 hb); have NB105_110 := Aside0.mk ((pbb4_4 : gb105 ≠ gb110)); have NB110_105 := Aside0.mk ((pbb4_5 : gb110 ≠ gb105)); replace BK105 := Aside0.mk (blk_below (g := gb105) (o := .cells #[.int .u64 t103, .int .u64 t104] 94 (0, 0)) pbb4_2 hb); clear hb hbox hg; refine hK.out _ _ ⟨(blk_cell BK105.out 0).trans rfl, (blk_cell BK105.out 1).trans rfl⟩ (fun hHeld => ?_); clear hK K; refine norm_ (a' := ?_) ?_ ?_; rotate_left
              ·show Act.put _ (some 12) _ = _; simp only [Act.put, List.setIfInBounds_toArray, List.set_cons_zero, List.set_cons_succ, i64_w, i32_w]
               rfl
              exact norm_ pbb4_6 (hCont (gb110) _ ⟨hHeld, pbb4_2, pbb4_7, GW110.out, GE110.out, NB105_110.out, NB110_105.out, pbb4_8⟩)
             ·skip
              refine box_step ?hg (N := 12) ?hd (cs := #[.int .u64 0, .int .u64 0]) (t := 94) ?hr ?_; (case hd => rfl); (case hg => rfl); (case hr => first | (go_simp; done) | (go_simp; rfl)); intro gb110 hg w45 hbox hb; have BK110 := Aside0.mk (hbox); have GW110 := Aside0.mk ((pbb4_3 : w.heap.size ≤ gb110)); have GE110 := Aside0.mk ((pbb4_3 : w.heap.size ≤ gb110)); replace HB := Aside0.mk (below_step pbb4_1 hb); have NB105_110 := Aside0.mk ((pbb4_4 : gb105 ≠ gb110)); have NB110_105 := Aside0.mk ((pbb4_5 : gb110 ≠ gb105)); replace BK105 := Aside0.mk (blk_below (g := gb105) (o := .cells #[.int .u64 t103, .int .u64 t104] 94 (0, 0)) pbb4_2 hb); clear hb hbox hg; refine hK.out _ _ ⟨(blk_cell BK105.out 0).trans rfl, (blk_cell BK105.out 1).trans rfl⟩ (fun hHeld => ?_); clear hK K; refine norm_ (a' := ?_) ?_ ?_; rotate_left
              ·show Act.put _ (some 12) _ = _; simp only [Act.put, List.setIfInBounds_toArray, List.set_cons_zero, List.set_cons_succ, i64_w, i32_w]
               rfl
              refine one_ (i := 3) (N := some 45) (bq 10 143) rfl rfl (one_of HT_.out (by kernel_rfl)) (by decide) (fun K hK => ?_); refine goes_ Tryd.func77 (by kernel_rfl) rfl #[.agg #[.int .u64 t103, .int .u64 t104], .int .u64 t106] (by rfl) rfl rfl pbb2_2 ?_; (with_reducible refine (F77.calls t103 t104 t106 t107 t108 t109 _ A20.out).mono ?_); rintro e w46 ⟨rfl, hb⟩; refine ⟨_, rfl, ?_⟩; replace BK105 := Aside0.mk (blk_below (g := gb105) (o := .cells #[.int .u64 t103, .int .u64 t104] 94 (0, 0)) pbb4_2 hb); replace BK110 := Aside0.mk (blk_below (g := gb110) (o := .cells #[.int .u64 0, .int .u64 0] 94 (0, 0)) pbb4_7 hb); replace HB := Aside0.mk (below_step pbb4_8 hb); (try clear hb); (try clear hb2); (try clear hk); (try clear hi); refine hK.out _ _ ⟨(blk_cell BK105.out 0).trans rfl, (blk_cell BK105.out 1).trans rfl⟩ (fun hHeld => ?_); clear hK K; refine norm_ (a' := ?_) ?_ ?_; rotate_left
              ·show Act.put _ (some 45) _ = _; simp only [Act.put, List.setIfInBounds_toArray, List.set_cons_zero, List.set_cons_succ, i64_w, i32_w]
               rfl
              refine pv_ 4 41 (bq 10 159) HT_ ?_; refine pv_ 5 46 (bq 10 191) HT_ ?_; refine pv_ 6 47 (bq 10 255) HT_ ?_; exact norm_ pbb4_6 (hCont (gb110) _ ⟨hHeld, pbb4_2, pbb4_7, GW110.out, GE110.out, NB105_110.out, NB110_105.out, pbb4_8⟩)
            ·skip
             refine box_step ?hg (N := 12) ?hd (cs := #[.int .u64 0, .int .u64 0]) (t := 94) ?hr ?_; (case hd => rfl); (case hg => rfl); (case hr => first | (go_simp; done) | (go_simp; rfl)); intro gb110 hg w45 hbox hb; have BK110 := Aside0.mk (hbox); have GW110 := Aside0.mk ((pbb4_3 : w.heap.size ≤ gb110)); have GE110 := Aside0.mk ((pbb4_3 : w.heap.size ≤ gb110)); replace HB := Aside0.mk (below_step pbb4_1 hb); have NB105_110 := Aside0.mk ((pbb4_4 : gb105 ≠ gb110)); have NB110_105 := Aside0.mk ((pbb4_5 : gb110 ≠ gb105)); replace BK105 := Aside0.mk (blk_below (g := gb105) (o := .cells #[.int .u64 t103, .int .u64 t104] 94 (0, 0)) pbb4_2 hb); clear hb hbox hg; refine hK.out _ _ ⟨(blk_cell BK105.out 0).trans rfl, (blk_cell BK105.out 1).trans rfl⟩ (fun hHeld => ?_); clear hK K; refine norm_ (a' := ?_) ?_ ?_; rotate_left
             ·show Act.put _ (some 12) _ = _; simp only [Act.put, List.setIfInBounds_toArray, List.set_cons_zero, List.set_cons_succ, i64_w, i32_w]
              rfl
             refine one_ (i := 2) (N := some 44) (bq 10 135) rfl rfl (one_of HT_.out (by kernel_rfl)) (by decide) (fun K hK => ?_); refine goes_ Tryd.func76 (by kernel_rfl) rfl #[.int .i64 a2] (by rfl) rfl rfl pbb2_2 ?_; (with_reducible refine (F76.calls a2 t106 _ A19.out).mono ?_); rintro e w' ⟨rfl, ⟨nd, rfl⟩⟩; refine ⟨_, rfl, ?_⟩; refine hK.out _ _ ⟨(blk_cell BK105.out 0).trans rfl, (blk_cell BK105.out 1).trans rfl⟩ (fun hHeld => ?_); clear hK K; refine norm_ (a' := ?_) ?_ ?_; rotate_left
             ·show Act.put _ (some 44) _ = _; simp only [Act.put, List.setIfInBounds_toArray, List.set_cons_zero, List.set_cons_succ, i64_w, i32_w]
              rfl
             refine one_ (i := 3) (N := some 45) (bq 10 143) rfl rfl (one_of HT_.out (by kernel_rfl)) (by decide) (fun K hK => ?_); refine goes_ Tryd.func77 (by kernel_rfl) rfl #[.agg #[.int .u64 t103, .int .u64 t104], .int .u64 t106] (by rfl) rfl rfl pbb2_2 ?_; (with_reducible refine (F77.calls t103 t104 t106 t107 t108 t109 _ A20.out).mono ?_); rintro e w46 ⟨rfl, hb⟩; refine ⟨_, rfl, ?_⟩; replace BK105 := Aside0.mk (blk_below (g := gb105) (o := .cells #[.int .u64 t103, .int .u64 t104] 94 (0, 0)) pbb4_2 hb); replace BK110 := Aside0.mk (blk_below (g := gb110) (o := .cells #[.int .u64 0, .int .u64 0] 94 (0, 0)) pbb4_7 hb); replace HB := Aside0.mk (below_step pbb4_8 hb); (try clear hb); (try clear hb2); (try clear hk); (try clear hi); refine hK.out _ _ ⟨(blk_cell BK105.out 0).trans rfl, (blk_cell BK105.out 1).trans rfl⟩ (fun hHeld => ?_); clear hK K; refine norm_ (a' := ?_) ?_ ?_; rotate_left
             ·show Act.put _ (some 45) _ = _; simp only [Act.put, List.setIfInBounds_toArray, List.set_cons_zero, List.set_cons_succ, i64_w, i32_w]
              rfl
             refine pv_ 4 41 (bq 10 159) HT_ ?_; refine pv_ 5 46 (bq 10 191) HT_ ?_; refine pv_ 6 47 (bq 10 255) HT_ ?_; exact norm_ pbb4_6 (hCont (gb110) _ ⟨hHeld, pbb4_2, pbb4_7, GW110.out, GE110.out, NB105_110.out, NB110_105.out, pbb4_8⟩)
           rintro gb110 w47 ⟨hS_, h0_, h1_, h2_, h3_, h4_, h5_, h6_⟩; have n0_ : Aside0 (w47.heap[gb105]? = some (.cells #[.int .u64 t103, .int .u64 t104] 94 (0, 0))) := ⟨h0_⟩; have n1_ : Aside0 (w47.heap[gb110]? = some (.cells #[.int .u64 0, .int .u64 0] 94 (0, 0))) := ⟨h1_⟩; have n2_ : Aside0 (w.heap.size ≤ gb110) := ⟨h2_⟩; have n3_ : Aside0 (w.heap.size ≤ gb110) := ⟨h3_⟩; have n4_ : Aside0 (gb105 ≠ gb110) := ⟨h4_⟩; have n5_ : Aside0 (gb110 ≠ gb105) := ⟨h5_⟩; have n6_ : Aside0 (Below w.heap.size w w47) := ⟨h6_⟩; clear BK105; clear HB; clear h0_ h1_ h2_ h3_ h4_ h5_ h6_; have BK105 := n0_; have BK110 := n1_; have GW110 := n2_; have GE110 := n3_; have NB105_110 := n4_; have NB110_105 := n5_; have HB := n6_; clear n0_ n1_ n2_ n3_ n4_ n5_ n6_; have hHeld : w47.cell? ⟨gb105, 0, none⟩ = some (.int .u64 t103) ∧ w47.cell? ⟨gb105, 1, none⟩ = some (.int .u64 t104) := hS_; refine norm_ (a' := ?_) ?_ ?_; rotate_left
           ·simp only [putAll, Act.put, List.setIfInBounds_toArray, List.set_cons_zero, List.set_cons_succ]
            rfl
           refine one_ (i := 8) (N := none) (bq 10 511) rfl rfl (one_of HT_.out (by kernel_rfl)) (by decide) (fun K hK => ?_); have hs48 : w47.cell? ⟨gb110, 0, none⟩ = some (.int .u64 0) := (blk_cell BK110.out 0).trans rfl; have hfs48 := blk_frozen BK110.out 0; have hns48_0 := NB105_110.out; have hms48_0 := NB110_105.out; have hs49 : w47.cell? ⟨gb110, 1, none⟩ = some (.int .u64 0) := (blk_cell BK110.out 1).trans rfl; have hfs49 := blk_frozen BK110.out 1; have hns49_0 := NB105_110.out; have hms49_0 := NB110_105.out; refine skip_ (w1 := ?_) (by rfl) rfl ?_ ?_; rotate_left
           ·go_simp
            rfl
           refine hK.out _ _ ⟨((cell_far (p := ⟨gb110, _, none⟩) NB105_110.out _).trans (((cell_far (p := ⟨gb110, _, none⟩) NB105_110.out _).trans (hHeld.1)))), ((cell_far (p := ⟨gb110, _, none⟩) NB105_110.out _).trans (((cell_far (p := ⟨gb110, _, none⟩) NB105_110.out _).trans (hHeld.2))))⟩ (fun hHeld => ?_); clear hK K; refine pv_ 9 13 (bq 10 1023) HT_ ?_; refine done_ (done_of HT_.out (by kernel_rfl)) ?_; have hnb50 := NB110_105.out; have hnc50 := NB105_110.out; obtain ⟨hcz51_0, hcz51_1⟩ := cz2 BK110.out; obtain ⟨hfz51_0, hfz51_1⟩ := fz2 BK110.out; (try go_wp2_with (first | ((with_reducible refine gate_callee (f := 76) rfl ?_); refine goesL_ (some 60) rfl rfl Tryd.func76 (by kernel_rfl) rfl #[.int .i64 a2] rfl pbb2_2 ?_; (with_reducible refine (F76.calls a2 t111 _ A22.out).mono ?_); rintro e w' ⟨rfl, ⟨nd, rfl⟩⟩; refine ⟨_, rfl, ?_⟩) | ((with_reducible refine gate_callee (f := 78) rfl ?_); refine goesL_ (some 61) rfl rfl Tryd.func78 (by kernel_rfl) rfl #[.int .i64 a3, .bool x11_11, .bool ((Int.tmod t108 2) == 1), .int .u64 t109, .int .u64 t111] rfl pbb2_2 ?_; (with_reducible refine (F78.calls a3 x11_11 ((Int.tmod t108 2) == 1) t109 t111 false _ A23.out).mono ?_); rintro e w' ⟨rfl, ⟨nd, rfl⟩⟩; refine ⟨_, rfl, ?_⟩) | ((with_reducible refine gate_callee (f := 79) rfl ?_); refine goesL_ (some 68) rfl rfl Tryd.func79 (by kernel_rfl) rfl #[.bool x11_11, .int .u64 t108] rfl pbb2_2 ?_; (with_reducible refine (F79.calls x11_11 t108 t115 t116 _ A43.out).mono ?_); rintro e w' ⟨rfl, ⟨nd, rfl⟩⟩; refine ⟨_, rfl, ?_⟩)))
           go_ret2
           exact ⟨pbb2_5, pbb4_8⟩
         ·rw [if_neg c21] at H; have c21b0 := nF_ c21; have c21b1 := nT_ c21; simp only [Option.some.injEq, Prod.mk.injEq] at H; obtain ⟨rfl, rfl⟩ := H; (try go_wp2); replace BK105 := Aside0.mk (blk_drew BK105.out); replace HB := Aside0.mk (below_drew1 HB.out); refine start_ (n := 10) (S := fun w' => w'.cell? ⟨gb105, 0, none⟩ = some (.int .u64 t103) ∧ w'.cell? ⟨gb105, 1, none⟩ = some (.int .u64 t104)) (ds := []) (bq 10 0) (by kernel_rfl) rfl rfl ⟨(blk_cell BK105.out 0).trans rfl, (blk_cell BK105.out 1).trans rfl⟩ (fun hHeld => ?_); refine with_tabW F66.tab7 F66.bits7 (fun HT_ HW_ => ?_); generalize wc.drew = w52 at BK105 HB hHeld ⊢; refine pv_ 1 43 (bq 10 2) HT_ ?_; refine take_ (i := 0) (N := some 42) (v := ?_) (a' := ?_) (bq 10 3) rfl rfl (take_ofW HT_.out HW_.out (by kernel_rfl)) (fun _ _ _ h => h) (Or.inl ⟨by rfl, ?_⟩) hHeld ?_ ?_; rotate_left
          ·rintro w' ⟨s0, s1⟩; go_simp; (with_reducible rfl)
          rotate_left
          ·exact cbb2_0
          refine join_ (σ := Nat) 2 (bq 10 255) (fun s_ => [(44, .int .u64 t106), (45, .tuple #[.agg #[.int .u64 t107, .int .u64 t108], .int .u64 t109]), (12, .pointer (some ⟨s_, 0, none⟩)), (41, .tuple #[.agg #[.int .u64 t107, .int .u64 t108], .int .u64 t109]), (46, .agg #[.int .u64 t107, .int .u64 t108]), (47, .int .u64 t109)]) (fun s_ w' => (w'.cell? ⟨gb105, 0, none⟩ = some (.int .u64 t103) ∧ w'.cell? ⟨gb105, 1, none⟩ = some (.int .u64 t104)) ∧ (w'.heap[gb105]? = some (.cells #[.int .u64 t103, .int .u64 t104] 94 (0, 0))) ∧ (w'.heap[s_]? = some (.cells #[.int .u64 0, .int .u64 0] 94 (0, 0))) ∧ (w.heap.size ≤ s_) ∧ (w.heap.size ≤ s_) ∧ (gb105 ≠ s_) ∧ (s_ ≠ gb105) ∧ (Below w.heap.size w w')) ?_ ?_; rotate_left
          ·intro hCont; refine two_ (i := 2) (j := 7) (Ni := some 44) (Nj := some 12) (bq 10 7) (bq 10 131) rfl rfl rfl rfl (two_of HT_.out (by kernel_rfl)) (by decide) (by decide) (fun K hK => ?_) (fun K hK => ?_)
           ·skip
            refine goes_ Tryd.func76 (by kernel_rfl) rfl #[.int .i64 a2] (by rfl) rfl rfl pbb2_2 ?_; (with_reducible refine (F76.calls a2 t106 _ A19.out).mono ?_); rintro e w' ⟨rfl, ⟨nd, rfl⟩⟩; refine ⟨_, rfl, ?_⟩; refine hK.out _ _ ⟨(blk_cell BK105.out 0).trans rfl, (blk_cell BK105.out 1).trans rfl⟩ (fun hHeld => ?_); clear hK K; refine norm_ (a' := ?_) ?_ ?_; rotate_left
            ·show Act.put _ (some 44) _ = _; simp only [Act.put, List.setIfInBounds_toArray, List.set_cons_zero, List.set_cons_succ, i64_w, i32_w]
             rfl
            refine two_ (i := 3) (j := 7) (Ni := some 45) (Nj := some 12) (bq 10 15) (bq 10 135) rfl rfl rfl rfl (two_of HT_.out (by kernel_rfl)) (by decide) (by decide) (fun K hK => ?_) (fun K hK => ?_)
            ·skip
             refine goes_ Tryd.func77 (by kernel_rfl) rfl #[.agg #[.int .u64 t103, .int .u64 t104], .int .u64 t106] (by rfl) rfl rfl pbb2_2 ?_; (with_reducible refine (F77.calls t103 t104 t106 t107 t108 t109 _ A20.out).mono ?_); rintro e w53 ⟨rfl, hb⟩; refine ⟨_, rfl, ?_⟩; replace BK105 := Aside0.mk (blk_below (g := gb105) (o := .cells #[.int .u64 t103, .int .u64 t104] 94 (0, 0)) pbb4_2 hb); replace HB := Aside0.mk (below_step pbb4_1 hb); (try clear hb); (try clear hb2); (try clear hk); (try clear hi); refine hK.out _ _ ⟨(blk_cell BK105.out 0).trans rfl, (blk_cell BK105.out 1).trans rfl⟩ (fun hHeld => ?_); clear hK K; refine norm_ (a' := ?_) ?_ ?_; rotate_left
             ·show Act.put _ (some 45) _ = _; simp only [Act.put, List.setIfInBounds_toArray, List.set_cons_zero, List.set_cons_succ, i64_w, i32_w]
              rfl
             refine pv_ 4 41 (bq 10 31) HT_ ?_; refine pv_ 5 46 (bq 10 63) HT_ ?_; refine pv_ 6 47 (bq 10 127) HT_ ?_; refine one_ (i := 7) (N := some 12) (bq 10 255) rfl rfl (one_of HT_.out (by kernel_rfl)) (by decide) (fun K hK => ?_); refine box_step ?hg (N := 12) ?hd (cs := #[.int .u64 0, .int .u64 0]) (t := 94) ?hr ?_; (case hd => rfl); (case hg => rfl); (case hr => first | (go_simp; done) | (go_simp; rfl)); intro gb110 hg w54 hbox hb; have BK110 := Aside0.mk (hbox); have GW110 := Aside0.mk ((pbb4_3 : w.heap.size ≤ gb110)); have GE110 := Aside0.mk ((pbb4_3 : w.heap.size ≤ gb110)); replace HB := Aside0.mk (below_step pbb4_1 hb); have NB105_110 := Aside0.mk ((pbb4_4 : gb105 ≠ gb110)); have NB110_105 := Aside0.mk ((pbb4_5 : gb110 ≠ gb105)); replace BK105 := Aside0.mk (blk_below (g := gb105) (o := .cells #[.int .u64 t103, .int .u64 t104] 94 (0, 0)) pbb4_2 hb); clear hb hbox hg; refine hK.out _ _ ⟨(blk_cell BK105.out 0).trans rfl, (blk_cell BK105.out 1).trans rfl⟩ (fun hHeld => ?_); clear hK K; refine norm_ (a' := ?_) ?_ ?_; rotate_left
             ·show Act.put _ (some 12) _ = _; simp only [Act.put, List.setIfInBounds_toArray, List.set_cons_zero, List.set_cons_succ, i64_w, i32_w]
              rfl
             exact norm_ pbb4_6 (hCont (gb110) _ ⟨hHeld, pbb4_2, pbb4_7, GW110.out, GE110.out, NB105_110.out, NB110_105.out, pbb4_8⟩)
            ·skip
             refine box_step ?hg (N := 12) ?hd (cs := #[.int .u64 0, .int .u64 0]) (t := 94) ?hr ?_; (case hd => rfl); (case hg => rfl); (case hr => first | (go_simp; done) | (go_simp; rfl)); intro gb110 hg w53 hbox hb; have BK110 := Aside0.mk (hbox); have GW110 := Aside0.mk ((pbb4_3 : w.heap.size ≤ gb110)); have GE110 := Aside0.mk ((pbb4_3 : w.heap.size ≤ gb110)); replace HB := Aside0.mk (below_step pbb4_1 hb); have NB105_110 := Aside0.mk ((pbb4_4 : gb105 ≠ gb110)); have NB110_105 := Aside0.mk ((pbb4_5 : gb110 ≠ gb105)); replace BK105 := Aside0.mk (blk_below (g := gb105) (o := .cells #[.int .u64 t103, .int .u64 t104] 94 (0, 0)) pbb4_2 hb); clear hb hbox hg; refine hK.out _ _ ⟨(blk_cell BK105.out 0).trans rfl, (blk_cell BK105.out 1).trans rfl⟩ (fun hHeld => ?_); clear hK K; refine norm_ (a' := ?_) ?_ ?_; rotate_left
             ·show Act.put _ (some 12) _ = _; simp only [Act.put, List.setIfInBounds_toArray, List.set_cons_zero, List.set_cons_succ, i64_w, i32_w]
              rfl
             refine one_ (i := 3) (N := some 45) (bq 10 143) rfl rfl (one_of HT_.out (by kernel_rfl)) (by decide) (fun K hK => ?_); refine goes_ Tryd.func77 (by kernel_rfl) rfl #[.agg #[.int .u64 t103, .int .u64 t104], .int .u64 t106] (by rfl) rfl rfl pbb2_2 ?_; (with_reducible refine (F77.calls t103 t104 t106 t107 t108 t109 _ A20.out).mono ?_); rintro e w54 ⟨rfl, hb⟩; refine ⟨_, rfl, ?_⟩; replace BK105 := Aside0.mk (blk_below (g := gb105) (o := .cells #[.int .u64 t103, .int .u64 t104] 94 (0, 0)) pbb4_2 hb); replace BK110 := Aside0.mk (blk_below (g := gb110) (o := .cells #[.int .u64 0, .int .u64 0] 94 (0, 0)) pbb4_7 hb); replace HB := Aside0.mk (below_step pbb4_8 hb); (try clear hb); (try clear hb2); (try clear hk); (try clear hi); refine hK.out _ _ ⟨(blk_cell BK105.out 0).trans rfl, (blk_cell BK105.out 1).trans rfl⟩ (fun hHeld => ?_); clear hK K; refine norm_ (a' := ?_) ?_ ?_; rotate_left
             ·show Act.put _ (some 45) _ = _; simp only [Act.put, List.setIfInBounds_toArray, List.set_cons_zero, List.set_cons_succ, i64_w, i32_w]
              rfl
             refine pv_ 4 41 (bq 10 159) HT_ ?_; refine pv_ 5 46 (bq 10 191) HT_ ?_; refine pv_ 6 47 (bq 10 255) HT_ ?_; exact norm_ pbb4_6 (hCont (gb110) _ ⟨hHeld, pbb4_2, pbb4_7, GW110.out, GE110.out, NB105_110.out, NB110_105.out, pbb4_8⟩)
           ·skip
            refine box_step ?hg (N := 12) ?hd (cs := #[.int .u64 0, .int .u64 0]) (t := 94) ?hr ?_; (case hd => rfl); (case hg => rfl); (case hr => first | (go_simp; done) | (go_simp; rfl)); intro gb110 hg w53 hbox hb; have BK110 := Aside0.mk (hbox); have GW110 := Aside0.mk ((pbb4_3 : w.heap.size ≤ gb110)); have GE110 := Aside0.mk ((pbb4_3 : w.heap.size ≤ gb110)); replace HB := Aside0.mk (below_step pbb4_1 hb); have NB105_110 := Aside0.mk ((pbb4_4 : gb105 ≠ gb110)); have NB110_105 := Aside0.mk ((pbb4_5 : gb110 ≠ gb105)); replace BK105 := Aside0.mk (blk_below (g := gb105) (o := .cells #[.int .u64 t103, .int .u64 t104] 94 (0, 0)) pbb4_2 hb); clear hb hbox hg; refine hK.out _ _ ⟨(blk_cell BK105.out 0).trans rfl, (blk_cell BK105.out 1).trans rfl⟩ (fun hHeld => ?_); clear hK K; refine norm_ (a' := ?_) ?_ ?_; rotate_left
            ·show Act.put _ (some 12) _ = _; simp only [Act.put, List.setIfInBounds_toArray, List.set_cons_zero, List.set_cons_succ, i64_w, i32_w]
             rfl
            refine one_ (i := 2) (N := some 44) (bq 10 135) rfl rfl (one_of HT_.out (by kernel_rfl)) (by decide) (fun K hK => ?_); refine goes_ Tryd.func76 (by kernel_rfl) rfl #[.int .i64 a2] (by rfl) rfl rfl pbb2_2 ?_; (with_reducible refine (F76.calls a2 t106 _ A19.out).mono ?_); rintro e w' ⟨rfl, ⟨nd, rfl⟩⟩; refine ⟨_, rfl, ?_⟩; refine hK.out _ _ ⟨(blk_cell BK105.out 0).trans rfl, (blk_cell BK105.out 1).trans rfl⟩ (fun hHeld => ?_); clear hK K; refine norm_ (a' := ?_) ?_ ?_; rotate_left
            ·show Act.put _ (some 44) _ = _; simp only [Act.put, List.setIfInBounds_toArray, List.set_cons_zero, List.set_cons_succ, i64_w, i32_w]
             rfl
            refine one_ (i := 3) (N := some 45) (bq 10 143) rfl rfl (one_of HT_.out (by kernel_rfl)) (by decide) (fun K hK => ?_); refine goes_ Tryd.func77 (by kernel_rfl) rfl #[.agg #[.int .u64 t103, .int .u64 t104], .int .u64 t106] (by rfl) rfl rfl pbb2_2 ?_; (with_reducible refine (F77.calls t103 t104 t106 t107 t108 t109 _ A20.out).mono ?_); rintro e w54 ⟨rfl, hb⟩; refine ⟨_, rfl, ?_⟩; replace BK105 := Aside0.mk (blk_below (g := gb105) (o := .cells #[.int .u64 t103, .int .u64 t104] 94 (0, 0)) pbb4_2 hb); replace BK110 := Aside0.mk (blk_below (g := gb110) (o := .cells #[.int .u64 0, .int .u64 0] 94 (0, 0)) pbb4_7 hb); replace HB := Aside0.mk (below_step pbb4_8 hb); (try clear hb); (try clear hb2); (try clear hk); (try clear hi); refine hK.out _ _ ⟨(blk_cell BK105.out 0).trans rfl, (blk_cell BK105.out 1).trans rfl⟩ (fun hHeld => ?_); clear hK K; refine norm_ (a' := ?_) ?_ ?_; rotate_left
            ·show Act.put _ (some 45) _ = _; simp only [Act.put, List.setIfInBounds_toArray, List.set_cons_zero, List.set_cons_succ, i64_w, i32_w]
             rfl
            refine pv_ 4 41 (bq 10 159) HT_ ?_; refine pv_ 5 46 (bq 10 191) HT_ ?_; refine pv_ 6 47 (bq 10 255) HT_ ?_; exact norm_ pbb4_6 (hCont (gb110) _ ⟨hHeld, pbb4_2, pbb4_7, GW110.out, GE110.out, NB105_110.out, NB110_105.out, pbb4_8⟩)
          rintro gb110 w55 ⟨hS_, h0_, h1_, h2_, h3_, h4_, h5_, h6_⟩; have n0_ : Aside0 (w55.heap[gb105]? = some (.cells #[.int .u64 t103, .int .u64 t104] 94 (0, 0))) := ⟨h0_⟩; have n1_ : Aside0 (w55.heap[gb110]? = some (.cells #[.int .u64 0, .int .u64 0] 94 (0, 0))) := ⟨h1_⟩; have n2_ : Aside0 (w.heap.size ≤ gb110) := ⟨h2_⟩; have n3_ : Aside0 (w.heap.size ≤ gb110) := ⟨h3_⟩; have n4_ : Aside0 (gb105 ≠ gb110) := ⟨h4_⟩; have n5_ : Aside0 (gb110 ≠ gb105) := ⟨h5_⟩; have n6_ : Aside0 (Below w.heap.size w w55) := ⟨h6_⟩; clear BK105; clear HB; clear h0_ h1_ h2_ h3_ h4_ h5_ h6_; have BK105 := n0_; have BK110 := n1_; have GW110 := n2_; have GE110 := n3_; have NB105_110 := n4_; have NB110_105 := n5_; have HB := n6_; clear n0_ n1_ n2_ n3_ n4_ n5_ n6_; have hHeld : w55.cell? ⟨gb105, 0, none⟩ = some (.int .u64 t103) ∧ w55.cell? ⟨gb105, 1, none⟩ = some (.int .u64 t104) := hS_; refine norm_ (a' := ?_) ?_ ?_; rotate_left
          ·simp only [putAll, Act.put, List.setIfInBounds_toArray, List.set_cons_zero, List.set_cons_succ]
           rfl
          refine one_ (i := 8) (N := none) (bq 10 511) rfl rfl (one_of HT_.out (by kernel_rfl)) (by decide) (fun K hK => ?_); have hs56 : w55.cell? ⟨gb110, 0, none⟩ = some (.int .u64 0) := (blk_cell BK110.out 0).trans rfl; have hfs56 := blk_frozen BK110.out 0; have hns56_0 := NB105_110.out; have hms56_0 := NB110_105.out; have hs57 : w55.cell? ⟨gb110, 1, none⟩ = some (.int .u64 0) := (blk_cell BK110.out 1).trans rfl; have hfs57 := blk_frozen BK110.out 1; have hns57_0 := NB105_110.out; have hms57_0 := NB110_105.out; refine skip_ (w1 := ?_) (by rfl) rfl ?_ ?_; rotate_left
          ·go_simp
           rfl
          refine hK.out _ _ ⟨((cell_far (p := ⟨gb110, _, none⟩) NB105_110.out _).trans (((cell_far (p := ⟨gb110, _, none⟩) NB105_110.out _).trans (hHeld.1)))), ((cell_far (p := ⟨gb110, _, none⟩) NB105_110.out _).trans (((cell_far (p := ⟨gb110, _, none⟩) NB105_110.out _).trans (hHeld.2))))⟩ (fun hHeld => ?_); clear hK K; refine pv_ 9 13 (bq 10 1023) HT_ ?_; refine done_ (done_of HT_.out (by kernel_rfl)) ?_; have hnb58 := NB110_105.out; have hnc58 := NB105_110.out; obtain ⟨hcz59_0, hcz59_1⟩ := cz2 BK110.out; obtain ⟨hfz59_0, hfz59_1⟩ := fz2 BK110.out; (try go_wp2)
          go_ret2
          exact ⟨pbb2_5, pbb4_8⟩
end Go.Proofs.YtegpappenmhndaaDoor.M
end
section
namespace Go.Proofs.YtegpappenmhndaaDoor.M
open Go.RowKit Go.Proofs.YtegpappenmhndaaDoorW.PrintWords Go.Proofs.YtegpappenmhndaaDoorW.PrintLast Go.Proofs.YtegpappenmhndaaDoorW.PrintMore
attribute [local go_sem] max2_int min2_int max_two min_two max_three min_three max_four min_four
set_option linter.unusedVariables false
set_option linter.unusedSimpArgs false
def F67.f (a0 : Int) (a1 : Int) (a2 : Int) : Option (Int × Int) := if a2 = 0 then (some (0, 2)) else ((F76.f a0).bind fun t101 => ((F76.f a1).bind fun t102 => ((F75.f t101 t102).bind fun bt103 => ((F76.f a2).bind fun t105 => ((F77.f bt103.1 bt103.2 t105).bind fun bt106 => (if bt106.2.2 = 0 then (some (wrap64 (bt106.2.2), 0)) else (if ((decide (a0 < 0)) != (decide (a1 < 0))) = true then ((F76.f a2).bind fun t110 => (some (wrap64 (IntKind.u64.wrap (t110 - bt106.2.2)), 0))) else (some (wrap64 (bt106.2.2), 0)))))))))
set_option maxHeartbeats 8000000 in
set_option maxRecDepth 100000 in
theorem F67.calls (a0 : Int) (a1 : Int) (a2 : Int) (r1 : Int) (r2 : Int) (w : World) (h : F67.f a0 a1 a2 = some (r1, r2)) :
    Calls Tryd.prog 67 #[.int .i64 a0, .int .i64 a1, .int .i64 a2] w fun e w' => e = .returned (.tuple #[.int .i64 r1, .int .i64 r2]) ∧ Below w.heap.size w w' := by
 have hu94 := Tryd.underlying94; have HB := Aside0.mk (Below.refl w.heap.size w)
 unfold F67.f at h
 have H := h; clear h
 by_cases c4 : a2 = 0
 ·rw [if_pos c4] at H; have c4b0 := bT_ c4; have c4b1 := bF_ c4; clear c4; simp only [Option.some.injEq, Prod.mk.injEq] at H; obtain ⟨rfl, rfl⟩ := H; go_enter Tryd.func67, Tryd.ntmps67
  go_wp2
  go_ret2
  exact ⟨pbb2_5, pbb2_3⟩
 ·rw [if_neg c4] at H; have c4b0 := nF_ c4; have c4b1 := nT_ c4; obtain ⟨t101, A50, H⟩ := bnd H; have A5 := Aside0.mk A50; clear A50; obtain ⟨t102, A60, H⟩ := bnd H; have A6 := Aside0.mk A60; clear A60; obtain ⟨⟨t103, t104⟩, A70, H⟩ := bnd H; (try dsimp only at H); have A7 := Aside0.mk A70; clear A70; obtain ⟨t105, A80, H⟩ := bnd H; have A8 := Aside0.mk A80; clear A80; obtain ⟨⟨t106, t107, t108⟩, A90, H⟩ := bnd H; (try dsimp only at H); have A9 := Aside0.mk A90; clear A90
  by_cases c10 : t108 = 0
  ·rw [if_pos c10] at H; have c10b0 := bT_ c10; have c10b1 := bF_ c10; clear c10; simp only [Option.some.injEq, Prod.mk.injEq] at H; obtain ⟨rfl, rfl⟩ := H; go_enter Tryd.func67, Tryd.ntmps67
   go_wp2_with (first | ((with_reducible refine gate_callee (f := 76) rfl ?_); refine goesL_ (some 14) rfl rfl Tryd.func76 (by kernel_rfl) rfl #[.int .i64 a0] rfl pbb2_2 ?_; (with_reducible refine (F76.calls a0 t101 _ A5.out).mono ?_); rintro e w' ⟨rfl, ⟨nd, rfl⟩⟩; refine ⟨_, rfl, ?_⟩) | ((with_reducible refine gate_callee (f := 76) rfl ?_); refine goesL_ (some 16) rfl rfl Tryd.func76 (by kernel_rfl) rfl #[.int .i64 a1] rfl pbb2_2 ?_; (with_reducible refine (F76.calls a1 t102 _ A6.out).mono ?_); rintro e w' ⟨rfl, ⟨nd, rfl⟩⟩; refine ⟨_, rfl, ?_⟩) | ((with_reducible refine gate_callee (f := 75) rfl ?_); refine goesL_ (some 17) rfl rfl Tryd.func75 (by kernel_rfl) rfl #[.int .u64 t101, .int .u64 t102] rfl pbb2_2 ?_; (with_reducible refine (F75.calls t101 t102 t103 t104 _ A7.out).mono ?_); rintro e w11 ⟨rfl, hb⟩; refine ⟨_, rfl, ?_⟩; replace HB := Aside0.mk (below_step pbb2_3 hb); (try clear hb); (try clear hb2); (try clear hk); (try clear hi)) | ((with_reducible refine gate_callee (f := 76) rfl ?_); refine goesL_ (some 19) rfl rfl Tryd.func76 (by kernel_rfl) rfl #[.int .i64 a2] rfl pbb2_2 ?_; (with_reducible refine (F76.calls a2 t105 _ A8.out).mono ?_); rintro e w' ⟨rfl, ⟨nd, rfl⟩⟩; refine ⟨_, rfl, ?_⟩; (try (rw [drewN_self w11]; generalize hq_ : World.drewN w11 _ = w11; have n0_ : Aside0 (Below w.heap.size w w11) := ⟨pbb4_0⟩; clear HB hq_; have HB := n0_; clear n0_))) | ((with_reducible refine gate_callee (f := 77) rfl ?_); refine goesL_ (some 20) rfl rfl Tryd.func77 (by kernel_rfl) rfl #[.agg #[.int .u64 t103, .int .u64 t104], .int .u64 t105] rfl pbb2_2 ?_; (with_reducible refine (F77.calls t103 t104 t105 t106 t107 t108 _ A9.out).mono ?_); rintro e w12 ⟨rfl, hb⟩; refine ⟨_, rfl, ?_⟩; replace HB := Aside0.mk (below_step pbb2_3 hb); (try clear hb); (try clear hb2); (try clear hk); (try clear hi)) | ((with_reducible refine gate_dst (N := 8) rfl ?_); refine box_event ?hg (N := 8) ?hd (cs := #[.int .u64 0, .int .u64 0]) (t := 94) ?hr ?_; (case hd => rfl); (case hg => rfl); (case hr => first | (go_simp; done) | (go_simp; rfl)); intro gb109 hg w13 hbox hb; have BK109 := Aside0.mk (hbox); have GW109 := Aside0.mk ((pbb2_6 : w.heap.size ≤ gb109)); have GE109 := Aside0.mk ((pbb2_6 : w.heap.size ≤ gb109)); replace HB := Aside0.mk (below_step pbb2_3 hb); clear hb hbox hg; obtain ⟨hcz14_0, hcz14_1⟩ := cz2 BK109.out; obtain ⟨hfz14_0, hfz14_1⟩ := fz2 BK109.out))
   go_ret2
   exact ⟨pbb2_5, pbb4_9⟩
  ·rw [if_neg c10] at H; have c10b0 := nF_ c10; have c10b1 := nT_ c10
   by_cases c15 : ((decide (a0 < 0)) != (decide (a1 < 0))) = true
   ·rw [if_pos c15] at H; have c15b0 : ((decide (a0 < 0)) != (decide (a1 < 0))) = true := c15; (try (have c15b1 : decide ((decide (a0 < 0)) = (decide (a1 < 0))) = false := by simpa using c15)); (try (have c15b2 : ((decide (a0 < 0)) == (decide (a1 < 0))) = false := by simpa using c15)); (try (have c15b3 : ¬ ((decide (a0 < 0)) = (decide (a1 < 0))) := by simpa using c15)); clear c15; obtain ⟨t110, A160, H⟩ := bnd H; have A16 := Aside0.mk A160; clear A160; simp only [Option.some.injEq, Prod.mk.injEq] at H; obtain ⟨rfl, rfl⟩ := H; go_enter Tryd.func67, Tryd.ntmps67
    go_wp2_with (first | ((with_reducible refine gate_callee (f := 76) rfl ?_); refine goesL_ (some 14) rfl rfl Tryd.func76 (by kernel_rfl) rfl #[.int .i64 a0] rfl pbb2_2 ?_; (with_reducible refine (F76.calls a0 t101 _ A5.out).mono ?_); rintro e w' ⟨rfl, ⟨nd, rfl⟩⟩; refine ⟨_, rfl, ?_⟩) | ((with_reducible refine gate_callee (f := 76) rfl ?_); refine goesL_ (some 16) rfl rfl Tryd.func76 (by kernel_rfl) rfl #[.int .i64 a1] rfl pbb2_2 ?_; (with_reducible refine (F76.calls a1 t102 _ A6.out).mono ?_); rintro e w' ⟨rfl, ⟨nd, rfl⟩⟩; refine ⟨_, rfl, ?_⟩) | ((with_reducible refine gate_callee (f := 75) rfl ?_); refine goesL_ (some 17) rfl rfl Tryd.func75 (by kernel_rfl) rfl #[.int .u64 t101, .int .u64 t102] rfl pbb2_2 ?_; (with_reducible refine (F75.calls t101 t102 t103 t104 _ A7.out).mono ?_); rintro e w17 ⟨rfl, hb⟩; refine ⟨_, rfl, ?_⟩; replace HB := Aside0.mk (below_step pbb2_3 hb); (try clear hb); (try clear hb2); (try clear hk); (try clear hi)) | ((with_reducible refine gate_callee (f := 76) rfl ?_); refine goesL_ (some 19) rfl rfl Tryd.func76 (by kernel_rfl) rfl #[.int .i64 a2] rfl pbb2_2 ?_; (with_reducible refine (F76.calls a2 t105 _ A8.out).mono ?_); rintro e w' ⟨rfl, ⟨nd, rfl⟩⟩; refine ⟨_, rfl, ?_⟩; (try (rw [drewN_self w17]; generalize hq_ : World.drewN w17 _ = w17; have n0_ : Aside0 (Below w.heap.size w w17) := ⟨pbb4_0⟩; clear HB hq_; have HB := n0_; clear n0_))) | ((with_reducible refine gate_callee (f := 77) rfl ?_); refine goesL_ (some 20) rfl rfl Tryd.func77 (by kernel_rfl) rfl #[.agg #[.int .u64 t103, .int .u64 t104], .int .u64 t105] rfl pbb2_2 ?_; (with_reducible refine (F77.calls t103 t104 t105 t106 t107 t108 _ A9.out).mono ?_); rintro e w18 ⟨rfl, hb⟩; refine ⟨_, rfl, ?_⟩; replace HB := Aside0.mk (below_step pbb2_3 hb); (try clear hb); (try clear hb2); (try clear hk); (try clear hi)) | ((with_reducible refine gate_dst (N := 8) rfl ?_); refine box_event ?hg (N := 8) ?hd (cs := #[.int .u64 0, .int .u64 0]) (t := 94) ?hr ?_; (case hd => rfl); (case hg => rfl); (case hr => first | (go_simp; done) | (go_simp; rfl)); intro gb109 hg w19 hbox hb; have BK109 := Aside0.mk (hbox); have GW109 := Aside0.mk ((pbb2_6 : w.heap.size ≤ gb109)); have GE109 := Aside0.mk ((pbb2_6 : w.heap.size ≤ gb109)); replace HB := Aside0.mk (below_step pbb2_3 hb); clear hb hbox hg; obtain ⟨hcz20_0, hcz20_1⟩ := cz2 BK109.out; obtain ⟨hfz20_0, hfz20_1⟩ := fz2 BK109.out) | ((with_reducible refine gate_callee (f := 76) rfl ?_); refine goesL_ (some 33) rfl rfl Tryd.func76 (by kernel_rfl) rfl #[.int .i64 a2] rfl pbb2_2 ?_; (with_reducible refine (F76.calls a2 t110 _ A16.out).mono ?_); rintro e w' ⟨rfl, ⟨nd, rfl⟩⟩; refine ⟨_, rfl, ?_⟩))
    go_ret2
    exact ⟨pbb2_5, pbb4_9⟩
   ·rw [if_neg c15] at H; have c15b0 : ((decide (a0 < 0)) != (decide (a1 < 0))) = false := by simpa using c15
    (try (have c15b1 : decide ((decide (a0 < 0)) = (decide (a1 < 0))) = true := by simpa using c15)); (try (have c15b2 : ((decide (a0 < 0)) == (decide (a1 < 0))) = true := by simpa using c15)); clear c15; simp only [Option.some.injEq, Prod.mk.injEq] at H; obtain ⟨rfl, rfl⟩ := H; go_enter Tryd.func67, Tryd.ntmps67
    go_wp2_with (first | ((with_reducible refine gate_callee (f := 76) rfl ?_); refine goesL_ (some 14) rfl rfl Tryd.func76 (by kernel_rfl) rfl #[.int .i64 a0] rfl pbb2_2 ?_; (with_reducible refine (F76.calls a0 t101 _ A5.out).mono ?_); rintro e w' ⟨rfl, ⟨nd, rfl⟩⟩; refine ⟨_, rfl, ?_⟩) | ((with_reducible refine gate_callee (f := 76) rfl ?_); refine goesL_ (some 16) rfl rfl Tryd.func76 (by kernel_rfl) rfl #[.int .i64 a1] rfl pbb2_2 ?_; (with_reducible refine (F76.calls a1 t102 _ A6.out).mono ?_); rintro e w' ⟨rfl, ⟨nd, rfl⟩⟩; refine ⟨_, rfl, ?_⟩) | ((with_reducible refine gate_callee (f := 75) rfl ?_); refine goesL_ (some 17) rfl rfl Tryd.func75 (by kernel_rfl) rfl #[.int .u64 t101, .int .u64 t102] rfl pbb2_2 ?_; (with_reducible refine (F75.calls t101 t102 t103 t104 _ A7.out).mono ?_); rintro e w21 ⟨rfl, hb⟩; refine ⟨_, rfl, ?_⟩; replace HB := Aside0.mk (below_step pbb2_3 hb); (try clear hb); (try clear hb2); (try clear hk); (try clear hi)) | ((with_reducible refine gate_callee (f := 76) rfl ?_); refine goesL_ (some 19) rfl rfl Tryd.func76 (by kernel_rfl) rfl #[.int .i64 a2] rfl pbb2_2 ?_; (with_reducible refine (F76.calls a2 t105 _ A8.out).mono ?_); rintro e w' ⟨rfl, ⟨nd, rfl⟩⟩; refine ⟨_, rfl, ?_⟩; (try (rw [drewN_self w21]; generalize hq_ : World.drewN w21 _ = w21; have n0_ : Aside0 (Below w.heap.size w w21) := ⟨pbb4_0⟩; clear HB hq_; have HB := n0_; clear n0_))) | ((with_reducible refine gate_callee (f := 77) rfl ?_); refine goesL_ (some 20) rfl rfl Tryd.func77 (by kernel_rfl) rfl #[.agg #[.int .u64 t103, .int .u64 t104], .int .u64 t105] rfl pbb2_2 ?_; (with_reducible refine (F77.calls t103 t104 t105 t106 t107 t108 _ A9.out).mono ?_); rintro e w22 ⟨rfl, hb⟩; refine ⟨_, rfl, ?_⟩; replace HB := Aside0.mk (below_step pbb2_3 hb); (try clear hb); (try clear hb2); (try clear hk); (try clear hi)) | ((with_reducible refine gate_dst (N := 8) rfl ?_); refine box_event ?hg (N := 8) ?hd (cs := #[.int .u64 0, .int .u64 0]) (t := 94) ?hr ?_; (case hd => rfl); (case hg => rfl); (case hr => first | (go_simp; done) | (go_simp; rfl)); intro gb109 hg w23 hbox hb; have BK109 := Aside0.mk (hbox); have GW109 := Aside0.mk ((pbb2_6 : w.heap.size ≤ gb109)); have GE109 := Aside0.mk ((pbb2_6 : w.heap.size ≤ gb109)); replace HB := Aside0.mk (below_step pbb2_3 hb); clear hb hbox hg; obtain ⟨hcz24_0, hcz24_1⟩ := cz2 BK109.out; obtain ⟨hfz24_0, hfz24_1⟩ := fz2 BK109.out))
    go_ret2
    exact ⟨pbb2_5, pbb4_9⟩
def pw_copy_37.f (l0 l1 : List Int) : Option (Int × List Int) := some (((min l1.length l0.length : Nat) : Int), l1.take l0.length ++ l0.drop l1.length)
theorem pw_copy_37.calls (P0_ : Nat → Prop) (u9000_ : Value) (l0 : List Int) (A1 : Option Addr) (c1 : Nat) (l1 : List Int) (r1 : Int) (r2 : List Int) (w0 w : World) (hB : Below w0.heap.size w0 w) (ho0 : Kd.R (Kd.int .i64) 3 w w0.heap.size P0_ u9000_ l0) (hr1 : ∀ W_, Kept w W_ (fun k_ => P0_ k_) → Kd.C (Kd.int .i64) W_ A1 l1.length l1) (hc1 : l1.length ≤ c1) (h : pw_copy_37.f l0 l1 = some (r1, r2)) :
    CopyRuns Tryd.prog 37 37 #[u9000_, .slice A1 l1.length c1] w fun e w' => e = .returned (.int .i64 r1) ∧ Kd.R (Kd.int .i64) 3 w' w0.heap.size (fun k_ => (P0_ k_ ∨ w.heap.size ≤ k_)) u9000_ r2 ∧ Below w0.heap.size w0 w' ∧ Kept w w' (fun k_ => P0_ k_) := by
  simp only [pw_copy_37.f, Option.some.injEq, Prod.mk.injEq] at h; obtain ⟨rfl, rfl⟩ := h; exact copy_runs 37 37 3 Tryd.underlying37 (by kernel_rfl) P0_ u9000_ l0 A1 c1 l1 0 w0 w hB ho0 (hr1 w (Kept.refl _ _))
end Go.Proofs.YtegpappenmhndaaDoor.M
end
