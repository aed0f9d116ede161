/- What the claims of this seat share, part 1 of 2: what the program's functions compute. -/
import Derived.Test.YtgjpegmhlnabpaaQB1
import Derived.Test.YtgjpegmhlnabpaaQB2
import Derived.Test.YtgjpegmhlnabpaaQB3
namespace Go.Proofs.Ytgjpegmhlnabpaa.M
theorem prr1_0 {p : Prop} (h : p := by first | rfl | (simp; done) | (simp [*]; done)) : p := h
theorem prr1_1 {p : Prop} (h : p := by repeat (first | exact Drawn0.refl _ | apply Drawn0.step)) : p := h
theorem prr1_2 {p : Prop} (h : p := by (try simp only [List.map_toArray, List.map_cons, List.map_nil]); first | done | rfl | (simp only [List.length_drop, List.length_take]; rfl)) : p := h
theorem prr1_3 {p : Prop} (h : p := by have := HJ4.out; have := HJ13.out; have := HJ18.out; first | omega | exact Nat.le_refl _) : p := h
theorem prr1_4 {p : Prop} (h : p := by repeat (first | (with_reducible first | exact HB.out | apply below_alloc | apply pw_below_drewN | apply below_drew1) | exact HB.out)) : p := h
theorem prr1_5 {p : Prop} (h : p := by rw [hg]; exact (below_size (by repeat (first | (with_reducible first | exact HB.out | apply below_alloc | apply pw_below_drewN | apply below_drew1) | exact HB.out)))) : p := h
theorem prr1_6 {p : Prop} (h : p := by first | rfl | (simp [errW_none, errW_some] <;> rfl) | (simp [*, errW_none, errW_some] <;> rfl)) : p := h
theorem prr1_7 {p : Prop} (h : p := by repeat (first | (with_reducible first | exact HB.out | apply below_alloc | apply pw_below_drewN | apply below_drew1 | refine below_set ?_ GE101.out) | exact HB.out)) : p := h
theorem prr1_8 {p : Prop} (h : p := by (with_reducible repeat (first | refine blk_drewN ?_ _ | refine blk_drew ?_ | refine blk_alloc ?_ _)); exact BK101.out) : p := h
end Go.Proofs.Ytgjpegmhlnabpaa.M
section
namespace Go.Proofs.Ytgjpegmhlnabpaa.M
open Go.RowKit Go.Proofs.YtgjpegmhlnabpaaW.PrintWords Dv
set_option linter.unusedVariables false
set_option linter.unusedSimpArgs false
theorem muldiv_magnitude.eq {a : Int} (h : inI a) : muldiv_magnitude.f a = some (ab a) := by
  unfold inI at h
  unfold muldiv_magnitude.f ab
  simp only [wrap_u64]
  split
  · congr 1; omega
  · congr 1; omega
theorem muldiv_multiply.eq {x y : Int} (h0 : 0 ≤ x) (h1 : x < 18446744073709551616) (h2 : 0 ≤ y) (h3 : y < 18446744073709551616) : muldiv_multiply.f x y = some (x * y / 18446744073709551616, x * y % 18446744073709551616) := by
  obtain ⟨e1, e2⟩ := mul_words x y h0 h1 h2 h3; rw [← e1, ← e2]
  rfl
theorem muldiv_divide.eq {P c : Int} (h0 : 0 ≤ P) (h1 : P < 18446744073709551616 * 18446744073709551616) (hc : 0 < c) (hc1 : c < 18446744073709551616) : muldiv_divide.f (P / 18446744073709551616) (P % 18446744073709551616) c = some (qh (P / 18446744073709551616) c, ql (P / 18446744073709551616) (P % 18446744073709551616) c, P % c) := by
  unfold muldiv_divide.f
  rw [if_pos ⟨hc, hc1, by omega, by omega, by omega, by omega⟩, (div_words P c h0 hc).2]
theorem muldiv_signed.eq {neg : Bool} {z : Int} (h0 : 0 ≤ z) (h1 : z < 18446744073709551616) : muldiv_signed.f neg z = some (signv neg z) := by
  unfold muldiv_signed.f signv
  cases neg with
  | true =>
    simp only [if_true]
    split
    · rfl
    · congr 2
      rw [wrap_u64]
      unfold wrap64
      omega
  | false =>
    simp only [Bool.false_eq_true, if_false]
    split
    · rfl
    · congr 2
      unfold wrap64
      omega
theorem muldiv_away.eq {mode : Int} {neg : Bool} {q r c : Int} (hq : 0 ≤ q) (hm : 1 ≤ mode ∧ mode ≤ 5) (h0 : 0 ≤ r) (h1 : r < c) (h2 : c < 18446744073709551616) : muldiv_away.f mode neg ((Int.tmod q 2) == 1) r c = some (awayv mode neg q r c) := by
  have e : IntKind.u64.wrap (c - r) = c - r := u64w (by omega) (by omega); have e2 : Int.tmod q 2 = q % 2 := Int.tmod_eq_emod_of_nonneg hq
  unfold muldiv_away.f awayv
  rw [e, e2]; have hmm : mode = 1 ∨ mode = 2 ∨ mode = 3 ∨ mode = 4 ∨ mode = 5 := by omega
  by_cases hr : r = 0
  · simp [hr]
  · rcases hmm with rfl | rfl | rfl | rfl | rfl <;> simp [hr]
    by_cases h3 : r > c - r
    · have h4 : c - r < r := h3
      simp [h3, h4]
    · have h4 : ¬ c - r < r := h3
      by_cases h5 : r = c - r
      · rw [if_neg h3, if_pos h5]
        simp [h4, ← h5]
        by_cases h6 : q % 2 = 1 <;> simp [h6]
      · simp [h3, h4, h5]
theorem negv_pos {a b c : Int} (h : negv a b c = true) : a * b ≠ 0 := by
  unfold negv at h
  simp at h
  intro k
  rcases Int.mul_eq_zero.1 k with z | z <;> simp [z] at h
theorem signv_big {neg : Bool} {z : Int} (h : 18446744073709551616 ≤ z) : signv neg z = (0, 4) := by
  unfold signv
  cases neg
  · simp; omega
  · simp; omega
theorem negv_eq {a b c : Int} : negv a b c = if (decide (ab a * ab b = 0)) = true then false else (((decide (a < 0)) != (decide (b < 0))) != (decide (c < 0))) := by
  unfold negv
  have e : (ab a * ab b = 0) ↔ (a * b = 0) := by
    rw [Int.mul_eq_zero, Int.mul_eq_zero, ab_zero, ab_zero]
  by_cases h : a * b = 0
  · simp [e, h]
  · simp [e, h]
theorem muldiv_MulDiv.eq {a b c : Int} (mode : Int) (ha : inI a) (hb : inI b) (hc : inI c) : Ev (fun k => muldiv_MulDiv.f k a b c mode) (mdv a b c mode) := by
  unfold mdv
  by_cases hm : mode < 1 ∨ mode > 5
  · rw [if_pos hm]
    have j : Ev (fun k => muldiv_MulDiv.j0 k a b c mode true) (0, 10) := by
      refine Ev.succ ?_; simp only [muldiv_MulDiv.j0, if_true]; exact Ev.const _
    by_cases h1 : mode < 1
    · simp only [muldiv_MulDiv.f, if_pos h1]; exact j
    · have h2 : mode > 5 := by omega
      simp only [muldiv_MulDiv.f, if_neg h1, decide_eq_true h2]; exact j
  rw [if_neg hm]; have h1 : ¬ mode < 1 := by omega
  have h2 : ¬ mode > 5 := by omega
  simp only [muldiv_MulDiv.f, if_neg h1, decide_eq_false h2]; refine Ev.succ ?_; simp only [muldiv_MulDiv.j0, Bool.false_eq_true, if_false]
  by_cases h3 : c = 0
  · simp only [if_pos h3]; exact Ev.const _
  have ba := ab_bound ha; have bb := ab_bound hb; have bc := ab_bound hc; have pc := ab_pos h3; have bp := prod_ab ha hb; simp only [if_neg h3, muldiv_magnitude.eq ha, muldiv_magnitude.eq hb, Option.bind_some, muldiv_multiply.eq ba.1 (show ab a < 18446744073709551616 by omega) bb.1 (show ab b < 18446744073709551616 by omega)]
  -- the second part, for any sign
  have J : ∀ neg, Ev (fun k => muldiv_MulDiv.j1 k c mode neg (ab a * ab b / 18446744073709551616) (ab a * ab b % 18446744073709551616)) (signv neg (ab a * ab b / ab c + if awayv mode neg (ab a * ab b / ab c) (ab a * ab b % ab c) (ab c) = true then 1 else 0)) := by
    intro neg; refine Ev.succ ?_; simp only [muldiv_MulDiv.j1, muldiv_magnitude.eq hc, Option.bind_some, muldiv_divide.eq bp.1 bp.2 pc (show ab c < 18446744073709551616 by omega)]; have dw := (div_words (ab a * ab b) (ab c) bp.1 pc).1; have q0 : 0 ≤ ab a * ab b / ab c := Int.ediv_nonneg bp.1 (by omega); have r0 : 0 ≤ ab a * ab b % ab c := Int.emod_nonneg _ (by omega); have r1 : ab a * ab b % ab c < ab c := Int.emod_lt_of_pos _ pc; have qz := qh_zero (ab a * ab b) (ab c) bp.1 pc; have aw := muldiv_away.eq (mode := mode) (neg := neg) q0 (by omega) r0 r1 (show ab c < 18446744073709551616 by omega)
    by_cases hz : qh (ab a * ab b / 18446744073709551616) (ab c) = 0
    · have hq := qz.1 hz; rw [hz, Int.zero_mul, Int.zero_add] at dw; rw [dw]; simp only [if_pos hz, aw, Option.bind_some]
      by_cases haw : awayv mode neg (ab a * ab b / ab c) (ab a * ab b % ab c) (ab c) = true
      · simp only [if_pos haw]
        by_cases hw : ab a * ab b / ab c + 1 = 18446744073709551616
        · have e : IntKind.u64.wrap (ab a * ab b / ab c + 1) = 0 := by rw [wrap_u64, hw]; rfl
          rw [signv_big (by omega)]; simp only [e, if_true]; exact Ev.const _
        · have e : IntKind.u64.wrap (ab a * ab b / ab c + 1) = ab a * ab b / ab c + 1 := u64w (by omega) (by omega); have e2 : ¬ ab a * ab b / ab c + 1 = 0 := by omega
          simp only [e, if_neg e2, muldiv_signed.eq (neg := neg) (z := ab a * ab b / ab c + 1) (by omega) (by omega), Option.bind_some]; exact Ev.const _
      · simp only [if_neg haw, Int.add_zero, muldiv_signed.eq (neg := neg) (z := ab a * ab b / ab c) q0 hq, Option.bind_some]; exact Ev.const _
    · have hq : ¬ ab a * ab b / ab c < 18446744073709551616 := fun k => hz (qz.2 k); rw [signv_big (by split <;> omega)]; simp only [if_neg hz]; exact Ev.const _
  unfold sizev
  rw [negv_eq]
  have hne : (!(ab a * ab b / 18446744073709551616 == 0) || (!(ab a * ab b % 18446744073709551616 == 0))) = !(decide (ab a * ab b = 0)) := by
    by_cases hp : ab a * ab b = 0
    · simp [hp]
    · by_cases hx : ab a * ab b / 18446744073709551616 = 0
      · have hy : ¬ ab a * ab b % 18446744073709551616 = 0 := by omega
        simp [hp, hx, hy]
      · simp [hp, hx]
  simp only [hne]
  by_cases hp : ab a * ab b = 0
  · simp only [hp, decide_true, Bool.not_true, Bool.false_eq_true, if_false, if_true]; have := J false
    simpa only [hp] using this
  · simp only [hp, decide_false, Bool.not_false, Bool.false_eq_true, if_false, if_true]; exact J _
theorem frac_gcd.go : ∀ (n : Nat) (a b : Int), b.toNat ≤ n → 0 ≤ a → 0 ≤ b → Ev (fun k => frac_gcd.l0 k a b) ((Nat.gcd a.toNat b.toNat : Nat) : Int)
  | 0, a, b, hn, ha, hb => by
    obtain rfl : b = 0 := by omega
    refine Ev.succ ?_; simp only [frac_gcd.l0, if_true]; have e : ((Nat.gcd a.toNat (0 : Int).toNat : Nat) : Int) = a := by simp; omega
    rw [e]; exact Ev.const _
  | n + 1, a, b, hn, ha, hb => by
    refine Ev.succ ?_
    by_cases h : b = 0
    · subst h; simp only [frac_gcd.l0, if_true]; have e : ((Nat.gcd a.toNat (0 : Int).toNat : Nat) : Int) = a := by simp; omega
      rw [e]; exact Ev.const _
    · simp only [frac_gcd.l0, if_neg h]; have e : Int.tmod a b = a % b := Int.tmod_eq_emod_of_nonneg ha; have h1 : 0 ≤ a % b := Int.emod_nonneg a h; have h2 : a % b < b := Int.emod_lt_of_pos a (by omega); rw [e]; have ih := frac_gcd.go n b (a % b) (by omega) hb h1
      have g : Nat.gcd b.toNat (a % b).toNat = Nat.gcd a.toNat b.toNat := by
        rw [Int.toNat_emod ha hb, Nat.gcd_comm a.toNat, Nat.gcd_rec b.toNat a.toNat, Nat.gcd_comm]
      rw [g] at ih; exact ih
theorem frac_size.eq {a : Int} (h : inI a) : frac_size.f a = some (ab a) := by
  unfold inI at h
  unfold frac_size.f ab
  simp only [wrap_u64]
  split
  · congr 1; omega
  · congr 1; omega
def rightv (n d : Int) : Bool := decide (1 ≤ d ∧ d ≤ 1000000 ∧ -1000000 ≤ n ∧ n ≤ 1000000) && (((Nat.gcd (ab n).toNat d.toNat : Nat) : Int) == 1)
theorem rightv_bounds {n d : Int} (h : rightv n d = true) : 1 ≤ d ∧ d ≤ 1000000 ∧ -1000000 ≤ n ∧ n ≤ 1000000 := by
  unfold rightv at h
  simp only [Bool.and_eq_true, decide_eq_true_eq] at h; exact h.1
theorem rightv_no {n d : Int} (h : ¬ (1 ≤ d ∧ d ≤ 1000000 ∧ -1000000 ≤ n ∧ n ≤ 1000000)) : rightv n d = false := by
  unfold rightv
  rw [decide_eq_false h, Bool.false_and]
theorem rightv_yes {n d : Int} (h : 1 ≤ d ∧ d ≤ 1000000 ∧ -1000000 ≤ n ∧ n ≤ 1000000) : rightv n d = (((Nat.gcd (ab n).toNat d.toNat : Nat) : Int) == 1) := by
  unfold rightv
  rw [decide_eq_true h, Bool.true_and]
theorem frac_Right.eq {n d : Int} (hn : inI n) (hd : inI d) : Ev (fun k => frac_Right.f k n d) (rightv n d) := by
  have hb := ab_bound hn
  unfold frac_Right.f
  by_cases c1 : d < 1
  · simp only [if_pos c1]; rw [rightv_no (by omega)]; refine Ev.succ ?_; simp only [frac_Right.j0, if_true]; exact Ev.const _
  simp only [if_neg c1]
  by_cases c2 : d > 1000000
  · simp only [if_pos c2]; rw [rightv_no (by omega)]; refine Ev.succ ?_; simp only [frac_Right.j0, if_true]; exact Ev.const _
  simp only [if_neg c2, frac_size.eq hn, Option.bind_some]; refine Ev.succ ?_
  by_cases c3 : ab n > 1000000
  · rw [rightv_no (by unfold ab at c3; split at c3 <;> omega)]; simp only [frac_Right.j0, decide_eq_true c3, if_true]; exact Ev.const _
  · simp only [frac_Right.j0, decide_eq_false c3, Bool.false_eq_true, if_false, frac_size.eq hn, frac_size.eq hd, Option.bind_some]; rw [rightv_yes (by unfold ab at c3; split at c3 <;> omega)]; have e : ab d = d := by unfold ab; rw [if_neg (by omega)]
    rw [e]; exact Ev.bind (g := fun k => frac_gcd.f k (ab n) d) (h := fun k t => some (t == 1)) (frac_gcd.go _ _ _ (Nat.le_refl _) hb.1 (by omega)) (Ev.const _)
end Go.Proofs.Ytgjpegmhlnabpaa.M
end
section
namespace Go.Proofs.Ytgjpegmhlnabpaa.M
open Dv
set_option linter.unusedVariables false
theorem mdv_near {a b c mode : Int} (ha : -1000000000000000 ≤ a ∧ a ≤ 1000000000000000) (hb : 0 ≤ b) (hbc : b ≤ c) (hc : 0 < c) (hm : 1 ≤ mode ∧ mode ≤ 5) :
    ∃ t, mdv a b c mode = (t, 0) ∧ -c < c * t - a * b ∧ c * t - a * b < c ∧ t ≤ ab a ∧ -ab a ≤ t := by
  have e0 : ¬ (mode < 1 ∨ mode > 5) := by omega
  have e1 : ¬ c = 0 := by omega
  have eb : ab b = b := by unfold ab; rw [if_neg (by omega)]
  have ec : ab c = c := by unfold ab; rw [if_neg (by omega)]
  unfold mdv
  rw [if_neg e0, if_neg e1]
  unfold sizev
  rw [eb, ec]; have hA : 0 ≤ ab a ∧ ab a ≤ 1000000000000000 := by unfold ab; split <;> omega
  obtain ⟨s, hs⟩ : ∃ s, ab a * b = s := ⟨_, rfl⟩; have hs0 : 0 ≤ s := by rw [← hs]; exact Int.mul_nonneg hA.1 hb
  have hs1 : s ≤ ab a * c := by rw [← hs]; exact Int.mul_le_mul_of_nonneg_left hbc hA.1
  rw [hs]; obtain ⟨q, hq⟩ : ∃ q, s / c = q := ⟨_, rfl⟩; obtain ⟨r, hr⟩ : ∃ r, s % c = r := ⟨_, rfl⟩; have hqr : c * q + r = s := by rw [← hq, ← hr]; exact Int.mul_ediv_add_emod s c
  have hr0 : 0 ≤ r := by rw [← hr]; exact Int.emod_nonneg s e1
  have hr1 : r < c := by rw [← hr]; exact Int.emod_lt_of_pos s hc
  have hq0 : 0 ≤ q := by rw [← hq]; exact Int.ediv_nonneg hs0 (by omega)
  rw [hq, hr]
  have hqa : q ≤ ab a := by
    rcases Int.lt_or_le (ab a) q with h | h
    · have : c * (ab a + 1) ≤ c * q := Int.mul_le_mul_of_nonneg_left (by omega) (by omega); rw [Int.mul_add, Int.mul_comm c (ab a)] at this
      omega
    · exact h
  have hqa1 : r ≠ 0 → q + 1 ≤ ab a := by
    intro hz
    rcases Int.lt_or_le (ab a) (q + 1) with h | h
    · have : c * (ab a) ≤ c * q := Int.mul_le_mul_of_nonneg_left (by omega) (by omega); rw [Int.mul_comm c (ab a)] at this
      omega
    · exact h
  -- the size
  obtain ⟨z, hz⟩ : ∃ z, (q + if awayv mode (negv a b c) q r c = true then 1 else 0) = z := ⟨_, rfl⟩
  have hzz : -c < c * z - s ∧ c * z - s < c ∧ 0 ≤ z ∧ z ≤ ab a := by
    rw [← hz]
    by_cases haw : awayv mode (negv a b c) q r c = true
    · rw [if_pos haw, Int.mul_add]
      have hrn : r ≠ 0 := by
        unfold awayv at haw
        simp only [Bool.and_eq_true, decide_eq_true_eq] at haw; exact haw.1
      have := hqa1 hrn
      omega
    · rw [if_neg haw, Int.mul_add]
      omega
  rw [hz]
  unfold signv
  by_cases hn : negv a b c = true
  · have hn2 : a < 0 := by
      unfold negv at hn
      simp only [Bool.and_eq_true, bne_iff_ne, ne_eq, decide_eq_true_eq] at hn
      by_cases h : a < 0
      · exact h
      · exact absurd hn.2 (by simp [h, show ¬ b < 0 by omega, show ¬ c < 0 by omega])
    have has : a * b = -s := by rw [← hs]; unfold ab; rw [if_pos hn2, Int.neg_mul]; omega
    rw [if_pos hn, if_neg (by omega), has]; refine ⟨-z, rfl, ?_⟩; rw [Int.mul_neg]
    omega
  · have has : a * b = s := by
      by_cases h : a < 0
      · unfold negv at hn
        by_cases h0 : a * b = 0
        · rw [h0, ← hs]
          unfold ab
          rw [if_pos h, Int.neg_mul, h0]
          rfl
        · exact absurd (by simp [h0, h, show ¬ b < 0 by omega, show ¬ c < 0 by omega]) hn
      · rw [← hs]; unfold ab; rw [if_neg h]
    rw [if_neg hn, if_neg (by omega), has]; exact ⟨z, rfl, by omega⟩
theorem near_back {a n d t u : Int} (hn : 0 ≤ n) (hd : 0 < d) (h1 : -d < d * t - a * n) (h2 : d * t - a * n < d) (h3 : -(n + d) < (n + d) * u - (a + t) * n) (h4 : (n + d) * u - (a + t) * n < n + d) : u - t ≤ 1 ∧ t - u ≤ 1 := by
  have e : (n + d) * u - (a + t) * n = (n + d) * (u - t) + (d * t - a * n) := by
    simp only [Int.add_mul, Int.mul_sub, Int.mul_comm t n]
    omega
  rw [e] at h3 h4
  constructor
  · rcases Int.lt_or_le 1 (u - t) with h | h
    · have : (n + d) * 2 ≤ (n + d) * (u - t) := Int.mul_le_mul_of_nonneg_left (by omega) (by omega)
      omega
    · exact h
  · rcases Int.lt_or_le 1 (t - u) with h | h
    · have : (n + d) * 2 ≤ (n + d) * (t - u) := Int.mul_le_mul_of_nonneg_left (by omega) (by omega); have e2 : (n + d) * (t - u) = -((n + d) * (u - t)) := by rw [← Int.mul_neg]; congr 1; omega
      omega
    · exact h
end Go.Proofs.Ytgjpegmhlnabpaa.M
end
section
namespace Go.Proofs.Ytgjpegmhlnabpaa.M
open Go.RowKit Go.Proofs.YtgjpegmhlnabpaaW.PrintWords Dv
set_option linter.unusedVariables false
set_option linter.unusedSimpArgs false
theorem wfb {x : Int} (h : (Lit.int .i64 x).wf = true) : -9223372036854775808 ≤ x ∧ x ≤ 9223372036854775807 := by
  have e1 : IntKind.i64.min = -9223372036854775808 := by decide
  have e2 : IntKind.i64.max = 9223372036854775807 := by decide
  simp [Lit.wf, e1, e2] at h
  exact h
def ratev (n d : Int) : Bool := rightv n d && (decide (n ≥ 0) && decide (n ≤ d))
theorem ratev_bounds {n d : Int} (h : ratev n d = true) : 0 ≤ n ∧ n ≤ d ∧ 1 ≤ d ∧ d ≤ 1000000 := by
  unfold ratev at h
  simp only [Bool.and_eq_true, decide_eq_true_eq] at h; have := rightv_bounds h.1
  omega
theorem tax_rate.eq {n d : Int} (hn : inI n) (hd : inI d) : Ev (fun k => tax_rate.f k n d) (ratev n d) := by
  unfold tax_rate.f ratev
  refine Ev.bind (frac_Right.eq hn hd) ?_
  cases rightv n d with
  | false => exact Ev.const _
  | true =>
    simp only [if_true, Bool.true_and]
    by_cases c : n ≥ 0
    · simp only [if_pos c, decide_eq_true c, Bool.true_and]; exact Ev.const _
    · simp only [if_neg c, decide_eq_false c, Bool.false_and]; exact Ev.const _
theorem tax_far.eq {a m : Int} (h0 : 0 ≤ m) (h1 : m ≤ 1000000000000000) : tax_far.f a m = some (decide (a > m ∨ a < -m)) := by
  unfold tax_far.f
  rw [w64 (by omega) (by omega)]
  by_cases c : a > m
  · rw [if_pos c, decide_eq_true (Or.inl c)]
  · rw [if_neg c]
    by_cases e : a < -m
    · rw [decide_eq_true e, decide_eq_true (Or.inr e)]
    · rw [decide_eq_false e, decide_eq_false (by omega)]
def chkT (a n d mode : Int) : Int := if mode < 1 ∨ mode > 5 then 10 else if ratev n d = true then (if a > 1000000000000000 ∨ a < -1000000000000000 then 4 else 0) else 2
theorem chkT_zero {a n d mode : Int} (h : chkT a n d mode = 0) : (1 ≤ mode ∧ mode ≤ 5) ∧ ratev n d = true ∧ (-1000000000000000 ≤ a ∧ a ≤ 1000000000000000) := by
  unfold chkT at h
  split at h
  · omega
  · split at h
    · rename_i h1 h2
      split at h
      · omega
      · exact ⟨by omega, h2, by omega⟩
    · omega
theorem tax_check.eq {a n d mode : Int} (hn : inI n) (hd : inI d) : Ev (fun k => tax_check.f k a n d mode) (chkT a n d mode) := by
  unfold tax_check.f chkT
  by_cases c1 : mode < 1
  · simp only [if_pos c1, if_pos (show mode < 1 ∨ mode > 5 from Or.inl c1)]; refine Ev.succ ?_; simp only [tax_check.j0, if_true]; exact Ev.const _
  · simp only [if_neg c1]; refine Ev.succ ?_
    by_cases c2 : mode > 5
    · simp only [tax_check.j0, decide_eq_true c2, if_true, if_pos (show mode < 1 ∨ mode > 5 from Or.inr c2)]; exact Ev.const _
    · simp only [tax_check.j0, decide_eq_false c2, if_neg (show ¬ (mode < 1 ∨ mode > 5) by omega), Bool.false_eq_true, if_false]; refine Ev.bind (tax_rate.eq hn hd) ?_
      cases ratev n d with
      | false => exact Ev.const _
      | true =>
        simp only [if_true]; rw [show tax_far.f a 1000000000000000 = some _ from tax_far.eq (by omega) (by omega)]; simp only [Option.bind_some, decide_eq_true_eq]
        by_cases c3 : a > 1000000000000000 ∨ a < -1000000000000000
        · simp only [if_pos c3]; exact Ev.const _
        · simp only [if_neg c3]; exact Ev.const _
def onv (a n d mode : Int) : Int × Int := if chkT a n d mode = 0 then mdv a n d mode else (0, chkT a n d mode)
def inv (a n d mode : Int) : Int × Int × Int := if chkT a n d mode = 0 then (wrap64 (a - (mdv a n (n + d) mode).1), (mdv a n (n + d) mode).1, (mdv a n (n + d) mode).2) else (0, 0, chkT a n d mode)
theorem tax_On.eq {a n d mode : Int} (ha : inI a) (hn : inI n) (hd : inI d) : Ev (fun k => tax_On.f k a n d mode) (onv a n d mode) := by
  unfold tax_On.f onv
  refine Ev.bind (tax_check.eq hn hd) ?_
  by_cases c : chkT a n d mode = 0
  · simp only [if_pos c]; exact Ev.bind (muldiv_MulDiv.eq mode ha hn hd) (Ev.const _)
  · simp only [if_neg c]; exact Ev.const _
theorem tax_In.eq {a n d mode : Int} (ha : inI a) (hn : inI n) (hd : inI d) : Ev (fun k => tax_In.f k a n d mode) (inv a n d mode) := by
  unfold tax_In.f inv
  refine Ev.bind (tax_check.eq hn hd) ?_
  by_cases c : chkT a n d mode = 0
  · have hb := ratev_bounds (chkT_zero c).2.1; simp only [if_pos c]; rw [w64 (n := n + d) (by omega) (by omega)]; exact Ev.bind (muldiv_MulDiv.eq mode ha hn (by unfold inI; omega)) (Ev.const _)
  · simp only [if_neg c]; exact Ev.const _
theorem onv_ok {a n d mode : Int} (h : chkT a n d mode = 0) : ∃ t, onv a n d mode = (t, 0) ∧ -d < d * t - a * n ∧ d * t - a * n < d ∧ t ≤ ab a ∧ -ab a ≤ t := by
  obtain ⟨hm, hr, ha⟩ := chkT_zero h; have hb := ratev_bounds hr; obtain ⟨t, h1, h2⟩ := mdv_near (b := n) (c := d) ha (by omega) (by omega) (by omega) hm; exact ⟨t, by unfold onv; rw [if_pos h, h1], h2⟩
theorem inv_ok {a n d mode : Int} (h : chkT a n d mode = 0) : ∃ t, inv a n d mode = (a - t, t, 0) ∧ -(n + d) < (n + d) * t - a * n ∧ (n + d) * t - a * n < n + d ∧ t ≤ ab a ∧ -ab a ≤ t := by
  obtain ⟨hm, hr, ha⟩ := chkT_zero h; have hb := ratev_bounds hr; obtain ⟨t, h1, h2⟩ := mdv_near (b := n) (c := n + d) ha (by omega) (by omega) (by omega) hm; refine ⟨t, ?_, h2⟩
  unfold inv
  rw [if_pos h, h1]; simp only; rw [w64]
  · have := h2.2.2; unfold ab at this; split at this <;> omega
  · have := h2.2.2; unfold ab at this; split at this <;> omega
end Go.Proofs.Ytgjpegmhlnabpaa.M
end
section
namespace Go.Proofs.Ytgjpegmhlnabpaa.M
open Go.RowKit Go.Proofs.YtgjpegmhlnabpaaW.PrintWords Go.Proofs.YtgjpegmhlnabpaaW.PrintLast Go.Proofs.YtgjpegmhlnabpaaW.PrintMore
attribute [local go_sem] max2_int min2_int max_two min_two max_three min_three max_four min_four
set_option linter.unusedVariables false
set_option linter.unusedSimpArgs false
def accountingref02_wide.f (a0 : Int) (a1 : Int) : Option (Int × Int) := some (IntKind.u64.wrap ((IntKind.u64.wrap ((IntKind.u64.wrap ((IntKind.u64.wrap (Int.tdiv a0 4294967296)) * (IntKind.u64.wrap (Int.tdiv a1 4294967296)))) + (IntKind.u64.wrap (Int.tdiv (IntKind.u64.wrap ((IntKind.u64.wrap ((IntKind.u64.wrap (Int.tdiv a0 4294967296)) * (Int.tmod a1 4294967296))) + (IntKind.u64.wrap (Int.tdiv (IntKind.u64.wrap ((Int.tmod a0 4294967296) * (Int.tmod a1 4294967296))) 4294967296)))) 4294967296)))) + (IntKind.u64.wrap (Int.tdiv (IntKind.u64.wrap ((IntKind.u64.wrap ((Int.tmod a0 4294967296) * (IntKind.u64.wrap (Int.tdiv a1 4294967296)))) + (Int.tmod (IntKind.u64.wrap ((IntKind.u64.wrap ((IntKind.u64.wrap (Int.tdiv a0 4294967296)) * (Int.tmod a1 4294967296))) + (IntKind.u64.wrap (Int.tdiv (IntKind.u64.wrap ((Int.tmod a0 4294967296) * (Int.tmod a1 4294967296))) 4294967296)))) 4294967296))) 4294967296))), IntKind.u64.wrap ((IntKind.u64.wrap ((Int.tmod (IntKind.u64.wrap ((IntKind.u64.wrap ((Int.tmod a0 4294967296) * (IntKind.u64.wrap (Int.tdiv a1 4294967296)))) + (Int.tmod (IntKind.u64.wrap ((IntKind.u64.wrap ((IntKind.u64.wrap (Int.tdiv a0 4294967296)) * (Int.tmod a1 4294967296))) + (IntKind.u64.wrap (Int.tdiv (IntKind.u64.wrap ((Int.tmod a0 4294967296) * (Int.tmod a1 4294967296))) 4294967296)))) 4294967296))) 4294967296) * 4294967296)) + (Int.tmod (IntKind.u64.wrap ((Int.tmod a0 4294967296) * (Int.tmod a1 4294967296))) 4294967296)))
set_option maxHeartbeats 8000000 in
set_option maxRecDepth 100000 in
theorem accountingref02_wide.calls (a0 : Int) (a1 : Int) (r1 : Int) (r2 : Int) (w : World) (h : accountingref02_wide.f a0 a1 = some (r1, r2)) :
    Calls Try.prog 44 #[.int .u64 a0, .int .u64 a1] w fun e w' => e = .returned (.tuple #[.int .u64 r1, .int .u64 r2]) ∧ Drawn0 w w' := by
 have H : (some (IntKind.u64.wrap ((IntKind.u64.wrap ((IntKind.u64.wrap ((IntKind.u64.wrap (Int.tdiv a0 4294967296)) * (IntKind.u64.wrap (Int.tdiv a1 4294967296)))) + (IntKind.u64.wrap (Int.tdiv (IntKind.u64.wrap ((IntKind.u64.wrap ((IntKind.u64.wrap (Int.tdiv a0 4294967296)) * (Int.tmod a1 4294967296))) + (IntKind.u64.wrap (Int.tdiv (IntKind.u64.wrap ((Int.tmod a0 4294967296) * (Int.tmod a1 4294967296))) 4294967296)))) 4294967296)))) + (IntKind.u64.wrap (Int.tdiv (IntKind.u64.wrap ((IntKind.u64.wrap ((Int.tmod a0 4294967296) * (IntKind.u64.wrap (Int.tdiv a1 4294967296)))) + (Int.tmod (IntKind.u64.wrap ((IntKind.u64.wrap ((IntKind.u64.wrap (Int.tdiv a0 4294967296)) * (Int.tmod a1 4294967296))) + (IntKind.u64.wrap (Int.tdiv (IntKind.u64.wrap ((Int.tmod a0 4294967296) * (Int.tmod a1 4294967296))) 4294967296)))) 4294967296))) 4294967296))), IntKind.u64.wrap ((IntKind.u64.wrap ((Int.tmod (IntKind.u64.wrap ((IntKind.u64.wrap ((Int.tmod a0 4294967296) * (IntKind.u64.wrap (Int.tdiv a1 4294967296)))) + (Int.tmod (IntKind.u64.wrap ((IntKind.u64.wrap ((IntKind.u64.wrap (Int.tdiv a0 4294967296)) * (Int.tmod a1 4294967296))) + (IntKind.u64.wrap (Int.tdiv (IntKind.u64.wrap ((Int.tmod a0 4294967296) * (Int.tmod a1 4294967296))) 4294967296)))) 4294967296))) 4294967296) * 4294967296)) + (Int.tmod (IntKind.u64.wrap ((Int.tmod a0 4294967296) * (Int.tmod a1 4294967296))) 4294967296)))) = some (r1, r2) := h; clear h; simp only [Option.some.injEq, Prod.mk.injEq] at H; obtain ⟨rfl, rfl⟩ := H; go_enter Try.func44, Try.ntmps44
 go_wp2
 go_ret2
 exact ⟨prr1_0, prr1_1⟩
def accountingref02_mag.f (a0 : Int) : Option (Int) := if a0 < 0 then (some (IntKind.u64.wrap ((IntKind.u64.wrap (wrap64 (-(wrap64 (a0 + 1))))) + 1))) else (some (IntKind.u64.wrap (a0)))
set_option maxHeartbeats 8000000 in
set_option maxRecDepth 100000 in
theorem accountingref02_mag.calls (a0 : Int) (r : Int) (w : World) (h : accountingref02_mag.f a0 = some r) :
    Calls Try.prog 45 #[.int .i64 a0] w fun e w' => e = .returned (.int .u64 r) ∧ Drawn0 w w' := by
 have H : (if a0 < 0 then (some (IntKind.u64.wrap ((IntKind.u64.wrap (wrap64 (-(wrap64 (a0 + 1))))) + 1))) else (some (IntKind.u64.wrap (a0)))) = some r := h; clear h
 by_cases c2 : a0 < 0
 ·rw [if_pos c2] at H; have c2b0 : decide (a0 < 0) = true := decide_eq_true c2; clear c2; obtain rfl := Option.some.inj H; go_enter Try.func45, Try.ntmps45
  go_wp2
  go_ret
  exact ⟨prr1_0, prr1_1⟩
 ·rw [if_neg c2] at H; have c2b0 : decide (a0 < 0) = false := decide_eq_false c2; clear c2; obtain rfl := Option.some.inj H; go_enter Try.func45, Try.ntmps45
  go_wp2
  go_ret
  exact ⟨prr1_0, prr1_1⟩
def accountingref02_divide.l0 : Nat → Int → Int → Int → Int → Int → Int → Int → Option (Int × Int × Int)
  | 0, _, _, _, _, _, _, _ => none
  | k + 1, x0, x1, x2, x9, x10, x11, x12 => if x12 < 128 then (if x11 ≥ 9223372036854775808 then (accountingref02_divide.l0 k (IntKind.u64.wrap ((IntKind.u64.wrap (2 * x0)) + (IntKind.u64.wrap (Int.tdiv x1 9223372036854775808)))) (IntKind.u64.wrap (2 * x1)) x2 (IntKind.u64.wrap ((IntKind.u64.wrap (2 * x9)) + (IntKind.u64.wrap (Int.tdiv x10 9223372036854775808)))) (IntKind.u64.wrap ((IntKind.u64.wrap (2 * x10)) + 1)) (IntKind.u64.wrap ((IntKind.u64.wrap ((IntKind.u64.wrap (2 * x11)) + (IntKind.u64.wrap (Int.tdiv x0 9223372036854775808)))) - x2)) (wrap64 (x12 + 1))) else (if (IntKind.u64.wrap ((IntKind.u64.wrap (2 * x11)) + (IntKind.u64.wrap (Int.tdiv x0 9223372036854775808)))) ≥ x2 then (accountingref02_divide.l0 k (IntKind.u64.wrap ((IntKind.u64.wrap (2 * x0)) + (IntKind.u64.wrap (Int.tdiv x1 9223372036854775808)))) (IntKind.u64.wrap (2 * x1)) x2 (IntKind.u64.wrap ((IntKind.u64.wrap (2 * x9)) + (IntKind.u64.wrap (Int.tdiv x10 9223372036854775808)))) (IntKind.u64.wrap ((IntKind.u64.wrap (2 * x10)) + 1)) (IntKind.u64.wrap ((IntKind.u64.wrap ((IntKind.u64.wrap (2 * x11)) + (IntKind.u64.wrap (Int.tdiv x0 9223372036854775808)))) - x2)) (wrap64 (x12 + 1))) else (accountingref02_divide.l0 k (IntKind.u64.wrap ((IntKind.u64.wrap (2 * x0)) + (IntKind.u64.wrap (Int.tdiv x1 9223372036854775808)))) (IntKind.u64.wrap (2 * x1)) x2 (IntKind.u64.wrap ((IntKind.u64.wrap (2 * x9)) + (IntKind.u64.wrap (Int.tdiv x10 9223372036854775808)))) (IntKind.u64.wrap (2 * x10)) (IntKind.u64.wrap ((IntKind.u64.wrap (2 * x11)) + (IntKind.u64.wrap (Int.tdiv x0 9223372036854775808)))) (wrap64 (x12 + 1))))) else (some (x9, x10, x11))
def accountingref02_divide.f (k : Nat) (a0 : Int) (a1 : Int) (a2 : Int) : Option (Int × Int × Int) := accountingref02_divide.l0 k a0 a1 a2 0 0 0 0
theorem accountingref02_divide.mono_l : ∀ k, (∀ y0 y1 y2 y3 y4 y5 y6, LeO (accountingref02_divide.l0 k y0 y1 y2 y3 y4 y5 y6) (accountingref02_divide.l0 (k + 1) y0 y1 y2 y3 y4 y5 y6))
  | 0 => fun _ _ _ _ _ _ _ r h => by simp [accountingref02_divide.l0] at h
  | k + 1 => by
    have ih0 := accountingref02_divide.mono_l k
    · intro y0 y1 y2 y3 y4 y5 y6
      unfold accountingref02_divide.l0
      repeat' first
      | (with_reducible exact ih0 _ _ _ _ _ _ _)
      | (with_reducible exact LeO.refl _)
      | (with_reducible exact LeO.none _)
      | (with_reducible refine LeO.ite ?_ ?_)
      | (with_reducible refine LeO.bind ?_ (fun _ => ?_))
      | exact ih0 _ _ _ _ _ _ _
      | exact LeO.none _
      | refine LeO.ite ?_ ?_
      | refine LeO.bind ?_ (fun _ => ?_)
theorem accountingref02_divide.mono : ∀ a0 a1 a2 k, LeO (accountingref02_divide.f k a0 a1 a2) (accountingref02_divide.f (k + 1) a0 a1 a2) := by
 intro a0 a1 a2 k; have ih0 := accountingref02_divide.mono_l k
 unfold accountingref02_divide.f
 repeat' first
   | (with_reducible exact ih0 _ _ _ _ _ _ _)
   | (with_reducible exact LeO.refl _)
   | (with_reducible exact LeO.none _)
   | (with_reducible refine LeO.ite ?_ ?_)
   | (with_reducible refine LeO.bind ?_ (fun _ => ?_))
   | exact ih0 _ _ _ _ _ _ _
   | exact LeO.none _
   | refine LeO.ite ?_ ?_
   | refine LeO.bind ?_ (fun _ => ?_)
set_option maxHeartbeats 8000000 in
set_option maxRecDepth 100000 in
theorem accountingref02_divide.calls (k : Nat) (a0 : Int) (a1 : Int) (a2 : Int) (r1 : Int) (r2 : Int) (r3 : Int) (w : World) (h : accountingref02_divide.f k a0 a1 a2 = some (r1, r2, r3)) :
    Calls Try.prog 46 #[.int .u64 a0, .int .u64 a1, .int .u64 a2] w fun e w' => e = .returned (.tuple #[.int .u64 r1, .int .u64 r2, .int .u64 r3]) ∧ Drawn0 w w' := by
 have H : (accountingref02_divide.l0 k a0 a1 a2 0 0 0 0) = some (r1, r2, r3) := h; clear h; have H' := Aside0.mk H; clear H; go_enter Try.func46, Try.ntmps46
 go_wp2
 go_loopg [0, 1, 9, 10, 11, 12] k (fun kq v0 v1 v9 v10 v11 v12 w' => ∃ (x0_1 : Int) (x1_1 : Int) (x9_1 : Int) (x10_1 : Int) (x11_1 : Int) (x12_1 : Int), v0 = .int .u64 x0_1 ∧ v1 = .int .u64 x1_1 ∧ v9 = .int .u64 x9_1 ∧ v10 = .int .u64 x10_1 ∧ v11 = .int .u64 x11_1 ∧ v12 = .int .i64 x12_1 ∧ Aside0 (accountingref02_divide.l0 kq x0_1 x1_1 a2 x9_1 x10_1 x11_1 x12_1 = some (r1, r2, r3)) ∧ Aside0 (kq ≤ k) ∧ Drawn0 w w')
 case atStart => exact ⟨(a0), (a1), (0), (0), (0), (0), prr1_0, prr1_0, prr1_0, prr1_0, prr1_0, prr1_0, H', ⟨Nat.le_refl _⟩, prr1_1⟩
 case round =>
  clear H'; (try clear p2); obtain ⟨x0_1, x1_1, x9_1, x10_1, x11_1, x12_1, rfl, rfl, rfl, rfl, rfl, rfl, HA, HK1, ⟨m1, rfl⟩⟩ := hrel
  cases gk with
  | zero => exact absurd HA.out (by simp [accountingref02_divide.l0])
  | succ k1 =>
   have H := HA.out; clear HA; simp only [accountingref02_divide.l0] at H
   by_cases c4 : x12_1 < 128
   ·rw [if_pos c4] at H; have c4b0 : decide (x12_1 < 128) = true := decide_eq_true c4; clear c4
    by_cases c5 : x11_1 ≥ 9223372036854775808
    ·rw [if_pos c5] at H; have c5b0 : decide (9223372036854775808 ≤ x11_1) = true := decide_eq_true c5; clear c5; have H' := Aside0.mk H; clear H
     go_wp2
     go_roundg k1
     case measure => have := HK1.out; omega
     case rel => exact ⟨(IntKind.u64.wrap ((IntKind.u64.wrap (2 * x0_1)) + (IntKind.u64.wrap (Int.tdiv x1_1 9223372036854775808)))), (IntKind.u64.wrap (2 * x1_1)), (IntKind.u64.wrap ((IntKind.u64.wrap (2 * x9_1)) + (IntKind.u64.wrap (Int.tdiv x10_1 9223372036854775808)))), (IntKind.u64.wrap ((IntKind.u64.wrap (2 * x10_1)) + 1)), (IntKind.u64.wrap ((IntKind.u64.wrap ((IntKind.u64.wrap (2 * x11_1)) + (IntKind.u64.wrap (Int.tdiv x0_1 9223372036854775808)))) - a2)), (wrap64 (x12_1 + 1)), prr1_0, prr1_0, prr1_0, prr1_0, prr1_0, prr1_0, H', ⟨by have := HK1.out; omega⟩, prr1_1⟩
    ·rw [if_neg c5] at H; have c5b0 : decide (9223372036854775808 ≤ x11_1) = false := decide_eq_false c5; clear c5
     by_cases c6 : (IntKind.u64.wrap ((IntKind.u64.wrap (2 * x11_1)) + (IntKind.u64.wrap (Int.tdiv x0_1 9223372036854775808)))) ≥ a2
     ·rw [if_pos c6] at H; have c6b0 : decide (a2 ≤ (IntKind.u64.wrap ((IntKind.u64.wrap (2 * x11_1)) + (IntKind.u64.wrap (Int.tdiv x0_1 9223372036854775808))))) = true := decide_eq_true c6; clear c6; have H' := Aside0.mk H; clear H
      go_wp2
      go_roundg k1
      case measure => have := HK1.out; omega
      case rel => exact ⟨(IntKind.u64.wrap ((IntKind.u64.wrap (2 * x0_1)) + (IntKind.u64.wrap (Int.tdiv x1_1 9223372036854775808)))), (IntKind.u64.wrap (2 * x1_1)), (IntKind.u64.wrap ((IntKind.u64.wrap (2 * x9_1)) + (IntKind.u64.wrap (Int.tdiv x10_1 9223372036854775808)))), (IntKind.u64.wrap ((IntKind.u64.wrap (2 * x10_1)) + 1)), (IntKind.u64.wrap ((IntKind.u64.wrap ((IntKind.u64.wrap (2 * x11_1)) + (IntKind.u64.wrap (Int.tdiv x0_1 9223372036854775808)))) - a2)), (wrap64 (x12_1 + 1)), prr1_0, prr1_0, prr1_0, prr1_0, prr1_0, prr1_0, H', ⟨by have := HK1.out; omega⟩, prr1_1⟩
     ·rw [if_neg c6] at H; have c6b0 : decide (a2 ≤ (IntKind.u64.wrap ((IntKind.u64.wrap (2 * x11_1)) + (IntKind.u64.wrap (Int.tdiv x0_1 9223372036854775808))))) = false := decide_eq_false c6; clear c6; have H' := Aside0.mk H; clear H
      go_wp2
      go_roundg k1
      case measure => have := HK1.out; omega
      case rel => exact ⟨(IntKind.u64.wrap ((IntKind.u64.wrap (2 * x0_1)) + (IntKind.u64.wrap (Int.tdiv x1_1 9223372036854775808)))), (IntKind.u64.wrap (2 * x1_1)), (IntKind.u64.wrap ((IntKind.u64.wrap (2 * x9_1)) + (IntKind.u64.wrap (Int.tdiv x10_1 9223372036854775808)))), (IntKind.u64.wrap (2 * x10_1)), (IntKind.u64.wrap ((IntKind.u64.wrap (2 * x11_1)) + (IntKind.u64.wrap (Int.tdiv x0_1 9223372036854775808)))), (wrap64 (x12_1 + 1)), prr1_0, prr1_0, prr1_0, prr1_0, prr1_0, prr1_0, H', ⟨by have := HK1.out; omega⟩, prr1_1⟩
   ·rw [if_neg c4] at H; have c4b0 : decide (x12_1 < 128) = false := decide_eq_false c4; clear c4; simp only [Option.some.injEq, Prod.mk.injEq] at H; obtain ⟨rfl, rfl, rfl⟩ := H
    go_wp2
    go_ret3
    exact ⟨prr1_0, prr1_1⟩
def accountingref02_away.f (a0 : Int) (a1 : Bool) (a2 : Bool) (a3 : Int) (a4 : Int) : Option (Bool) := if a0 = 2 then (some (decide (a3 > 0))) else (if a0 = 3 then (some (decide (a3 ≥ (IntKind.u64.wrap (a4 - a3))))) else (if a0 = 4 then (if a3 > (IntKind.u64.wrap (a4 - a3)) then (some true) else (if a3 = (IntKind.u64.wrap (a4 - a3)) then (some a2) else (some false))) else (if a0 = 5 then (if a1 = true then (some (decide (a3 > 0))) else (some false)) else (some false))))
set_option maxHeartbeats 8000000 in
set_option maxRecDepth 100000 in
theorem accountingref02_away.calls (a0 : Int) (a1 : Bool) (a2 : Bool) (a3 : Int) (a4 : Int) (r : Bool) (w : World) (h : accountingref02_away.f a0 a1 a2 a3 a4 = some r) :
    Calls Try.prog 47 #[.int .i64 a0, .bool a1, .bool a2, .int .u64 a3, .int .u64 a4] w fun e w' => e = .returned (.bool r) ∧ Drawn0 w w' := by
 have H : (if a0 = 2 then (some (decide (a3 > 0))) else (if a0 = 3 then (some (decide (a3 ≥ (IntKind.u64.wrap (a4 - a3))))) else (if a0 = 4 then (if a3 > (IntKind.u64.wrap (a4 - a3)) then (some true) else (if a3 = (IntKind.u64.wrap (a4 - a3)) then (some a2) else (some false))) else (if a0 = 5 then (if a1 = true then (some (decide (a3 > 0))) else (some false)) else (some false))))) = some r := h; clear h
 by_cases c6 : a0 = 2
 ·rw [if_pos c6] at H; have c6b0 : (a0 == 2) = true := beq_iff_eq.mpr c6; have c6b1 : (a0 != 2) = false := bne_eq_false_iff_eq.mpr c6; clear c6; obtain rfl := Option.some.inj H; go_enter Try.func47, Try.ntmps47
  go_wp2
  go_ret
  exact ⟨prr1_0, prr1_1⟩
 ·rw [if_neg c6] at H; have c6b0 : (a0 == 2) = false := beq_eq_false_iff_ne.mpr c6; have c6b1 : (a0 != 2) = true := bne_iff_ne.mpr c6
  by_cases c7 : a0 = 3
  ·rw [if_pos c7] at H; have c7b0 : (a0 == 3) = true := beq_iff_eq.mpr c7; have c7b1 : (a0 != 3) = false := bne_eq_false_iff_eq.mpr c7; clear c7; obtain rfl := Option.some.inj H; go_enter Try.func47, Try.ntmps47
   go_wp2
   go_ret
   exact ⟨prr1_0, prr1_1⟩
  ·rw [if_neg c7] at H; have c7b0 : (a0 == 3) = false := beq_eq_false_iff_ne.mpr c7; have c7b1 : (a0 != 3) = true := bne_iff_ne.mpr c7
   by_cases c8 : a0 = 4
   ·rw [if_pos c8] at H; have c8b0 : (a0 == 4) = true := beq_iff_eq.mpr c8; have c8b1 : (a0 != 4) = false := bne_eq_false_iff_eq.mpr c8; clear c8
    by_cases c9 : a3 > (IntKind.u64.wrap (a4 - a3))
    ·rw [if_pos c9] at H; have c9b0 : decide ((IntKind.u64.wrap (a4 - a3)) < a3) = true := decide_eq_true c9; clear c9; obtain rfl := Option.some.inj H; go_enter Try.func47, Try.ntmps47
     go_wp2
     go_ret
     exact ⟨prr1_0, prr1_1⟩
    ·rw [if_neg c9] at H; have c9b0 : decide ((IntKind.u64.wrap (a4 - a3)) < a3) = false := decide_eq_false c9; clear c9
     by_cases c10 : a3 = (IntKind.u64.wrap (a4 - a3))
     ·rw [if_pos c10] at H; have c10b0 : (a3 == (IntKind.u64.wrap (a4 - a3))) = true := beq_iff_eq.mpr c10; have c10b1 : (a3 != (IntKind.u64.wrap (a4 - a3))) = false := bne_eq_false_iff_eq.mpr c10; clear c10; obtain rfl := Option.some.inj H; go_enter Try.func47, Try.ntmps47
      go_wp2
      go_ret
      exact ⟨prr1_0, prr1_1⟩
     ·rw [if_neg c10] at H; have c10b0 : (a3 == (IntKind.u64.wrap (a4 - a3))) = false := beq_eq_false_iff_ne.mpr c10; have c10b1 : (a3 != (IntKind.u64.wrap (a4 - a3))) = true := bne_iff_ne.mpr c10; obtain rfl := Option.some.inj H; go_enter Try.func47, Try.ntmps47
      go_wp2
      go_ret
      exact ⟨prr1_0, prr1_1⟩
   ·rw [if_neg c8] at H; have c8b0 : (a0 == 4) = false := beq_eq_false_iff_ne.mpr c8; have c8b1 : (a0 != 4) = true := bne_iff_ne.mpr c8
    by_cases c11 : a0 = 5
    ·rw [if_pos c11] at H; have c11b0 : (a0 == 5) = true := beq_iff_eq.mpr c11; have c11b1 : (a0 != 5) = false := bne_eq_false_iff_eq.mpr c11; clear c11
     by_cases c12 : a1 = true
     ·subst c12; have H1 : (some (decide (a3 > 0))) = some r := by rw [if_pos rfl] at H; exact H
      clear H; have H := H1; clear H1; obtain rfl := Option.some.inj H; go_enter Try.func47, Try.ntmps47
      go_wp2
      go_ret
      exact ⟨prr1_0, prr1_1⟩
     ·replace c12 := Bool.eq_false_iff.mpr c12; subst c12; have H1 : (some false) = some r := by rw [if_neg (show ¬ (false = true) by decide)] at H; exact H
      clear H; have H := H1; clear H1; obtain rfl := Option.some.inj H; go_enter Try.func47, Try.ntmps47
      go_wp2
      go_ret
      exact ⟨prr1_0, prr1_1⟩
    ·rw [if_neg c11] at H; have c11b0 : (a0 == 5) = false := beq_eq_false_iff_ne.mpr c11; have c11b1 : (a0 != 5) = true := bne_iff_ne.mpr c11; obtain rfl := Option.some.inj H; go_enter Try.func47, Try.ntmps47
     go_wp2
     go_ret
     exact ⟨prr1_0, prr1_1⟩
mutual
def accountingref02_MulDiv.j0 : Nat → Int → Int → Int → Int → Bool → Option (Int × Int)
  | 0, _, _, _, _, _ => none
  | k + 1, x0, x1, x2, x3, x21 => if x21 = true then (some (0, 10)) else (if x2 = 0 then (some (0, 2)) else ((accountingref02_mag.f x0).bind fun t101 => ((accountingref02_mag.f x1).bind fun t102 => ((accountingref02_wide.f t101 t102).bind fun bt103 => ((accountingref02_mag.f x2).bind fun t105 => ((accountingref02_divide.f k bt103.1 bt103.2 t105).bind fun bt106 => (if bt106.1 > 0 then (accountingref02_MulDiv.j1 k x2 x3 bt106.2.1 bt106.2.2 (((decide (x0 < 0)) != (decide (x1 < 0))) != (decide (x2 < 0))) true) else (accountingref02_MulDiv.j1 k x2 x3 bt106.2.1 bt106.2.2 (((decide (x0 < 0)) != (decide (x1 < 0))) != (decide (x2 < 0))) (decide (bt106.2.1 > 9223372036854775808))))))))))
def accountingref02_MulDiv.j1 : Nat → Int → Int → Int → Int → Bool → Bool → Option (Int × Int)
  | 0, _, _, _, _, _, _ => none
  | k + 1, x2, x3, x13, x14, x15, x54 => if x54 = true then (some (0, 4)) else ((accountingref02_mag.f x2).bind fun t109 => ((accountingref02_away.f x3 x15 ((Int.tmod x13 2) == 1) x14 t109).bind fun t110 => (if t110 = true then (accountingref02_MulDiv.j2 k (IntKind.u64.wrap (x13 + 1)) x15) else (accountingref02_MulDiv.j2 k x13 x15))))
def accountingref02_MulDiv.j2 : Nat → Int → Bool → Option (Int × Int)
  | 0, _, _ => none
  | k + 1, x13, x15 => if x13 > 9223372036854775808 then (accountingref02_MulDiv.j3 k x13 x15 true) else (if x13 = 9223372036854775808 then (accountingref02_MulDiv.j3 k x13 x15 (!x15)) else (accountingref02_MulDiv.j3 k x13 x15 false))
def accountingref02_MulDiv.j3 : Nat → Int → Bool → Bool → Option (Int × Int)
  | 0, _, _, _ => none
  | k + 1, x13, x15, x75 => if x75 = true then (some (0, 4)) else (if x13 = 9223372036854775808 then (some ((-9223372036854775808), 0)) else (if x15 = true then (some (wrap64 (-(wrap64 (x13))), 0)) else (some (wrap64 (x13), 0))))
end
def accountingref02_MulDiv.f (k : Nat) (a0 : Int) (a1 : Int) (a2 : Int) (a3 : Int) : Option (Int × Int) := if a3 < 1 then (accountingref02_MulDiv.j0 k a0 a1 a2 a3 true) else (accountingref02_MulDiv.j0 k a0 a1 a2 a3 (decide (a3 > 5)))
theorem accountingref02_MulDiv.mono_l : ∀ k, (∀ y0 y1 y2 y3 y4, LeO (accountingref02_MulDiv.j0 k y0 y1 y2 y3 y4) (accountingref02_MulDiv.j0 (k + 1) y0 y1 y2 y3 y4)) ∧ (∀ y0 y1 y2 y3 y4 y5, LeO (accountingref02_MulDiv.j1 k y0 y1 y2 y3 y4 y5) (accountingref02_MulDiv.j1 (k + 1) y0 y1 y2 y3 y4 y5)) ∧ (∀ y0 y1, LeO (accountingref02_MulDiv.j2 k y0 y1) (accountingref02_MulDiv.j2 (k + 1) y0 y1)) ∧ (∀ y0 y1 y2, LeO (accountingref02_MulDiv.j3 k y0 y1 y2) (accountingref02_MulDiv.j3 (k + 1) y0 y1 y2))
  | 0 => ⟨fun _ _ _ _ _ r h => by simp [accountingref02_MulDiv.j0] at h, fun _ _ _ _ _ _ r h => by simp [accountingref02_MulDiv.j1] at h, fun _ _ r h => by simp [accountingref02_MulDiv.j2] at h, fun _ _ _ r h => by simp [accountingref02_MulDiv.j3] at h⟩
  | k + 1 => by
    obtain ⟨ih0, ih1, ih2, ih3⟩ := accountingref02_MulDiv.mono_l k; refine ⟨?_, ?_, ?_, ?_⟩
    · intro y0 y1 y2 y3 y4
      unfold accountingref02_MulDiv.j0
      repeat' first
      | (with_reducible exact ih0 _ _ _ _ _)
      | (with_reducible exact ih1 _ _ _ _ _ _)
      | (with_reducible exact ih2 _ _)
      | (with_reducible exact ih3 _ _ _)
      | (with_reducible exact accountingref02_divide.mono _ _ _ _)
      | (with_reducible exact LeO.refl _)
      | (with_reducible exact LeO.none _)
      | (with_reducible refine LeO.ite ?_ ?_)
      | (with_reducible refine LeO.bind ?_ (fun _ => ?_))
      | exact ih0 _ _ _ _ _
      | exact ih1 _ _ _ _ _ _
      | exact ih2 _ _
      | exact ih3 _ _ _
      | exact accountingref02_divide.mono _ _ _ _
      | exact LeO.none _
      | refine LeO.ite ?_ ?_
      | refine LeO.bind ?_ (fun _ => ?_)
    · intro y0 y1 y2 y3 y4 y5
      unfold accountingref02_MulDiv.j1
      repeat' first
      | (with_reducible exact ih0 _ _ _ _ _)
      | (with_reducible exact ih1 _ _ _ _ _ _)
      | (with_reducible exact ih2 _ _)
      | (with_reducible exact ih3 _ _ _)
      | (with_reducible exact accountingref02_divide.mono _ _ _ _)
      | (with_reducible exact LeO.refl _)
      | (with_reducible exact LeO.none _)
      | (with_reducible refine LeO.ite ?_ ?_)
      | (with_reducible refine LeO.bind ?_ (fun _ => ?_))
      | exact ih0 _ _ _ _ _
      | exact ih1 _ _ _ _ _ _
      | exact ih2 _ _
      | exact ih3 _ _ _
      | exact accountingref02_divide.mono _ _ _ _
      | exact LeO.none _
      | refine LeO.ite ?_ ?_
      | refine LeO.bind ?_ (fun _ => ?_)
    · intro y0 y1
      unfold accountingref02_MulDiv.j2
      repeat' first
      | (with_reducible exact ih0 _ _ _ _ _)
      | (with_reducible exact ih1 _ _ _ _ _ _)
      | (with_reducible exact ih2 _ _)
      | (with_reducible exact ih3 _ _ _)
      | (with_reducible exact accountingref02_divide.mono _ _ _ _)
      | (with_reducible exact LeO.refl _)
      | (with_reducible exact LeO.none _)
      | (with_reducible refine LeO.ite ?_ ?_)
      | (with_reducible refine LeO.bind ?_ (fun _ => ?_))
      | exact ih0 _ _ _ _ _
      | exact ih1 _ _ _ _ _ _
      | exact ih2 _ _
      | exact ih3 _ _ _
      | exact accountingref02_divide.mono _ _ _ _
      | exact LeO.none _
      | refine LeO.ite ?_ ?_
      | refine LeO.bind ?_ (fun _ => ?_)
    · intro y0 y1 y2
      unfold accountingref02_MulDiv.j3
      repeat' first
      | (with_reducible exact ih0 _ _ _ _ _)
      | (with_reducible exact ih1 _ _ _ _ _ _)
      | (with_reducible exact ih2 _ _)
      | (with_reducible exact ih3 _ _ _)
      | (with_reducible exact accountingref02_divide.mono _ _ _ _)
      | (with_reducible exact LeO.refl _)
      | (with_reducible exact LeO.none _)
      | (with_reducible refine LeO.ite ?_ ?_)
      | (with_reducible refine LeO.bind ?_ (fun _ => ?_))
      | exact ih0 _ _ _ _ _
      | exact ih1 _ _ _ _ _ _
      | exact ih2 _ _
      | exact ih3 _ _ _
      | exact accountingref02_divide.mono _ _ _ _
      | exact LeO.none _
      | refine LeO.ite ?_ ?_
      | refine LeO.bind ?_ (fun _ => ?_)
theorem accountingref02_MulDiv.mono : ∀ a0 a1 a2 a3 k, LeO (accountingref02_MulDiv.f k a0 a1 a2 a3) (accountingref02_MulDiv.f (k + 1) a0 a1 a2 a3) := by
 intro a0 a1 a2 a3 k; obtain ⟨ih0, ih1, ih2, ih3⟩ := accountingref02_MulDiv.mono_l k
 unfold accountingref02_MulDiv.f
 repeat' first
   | (with_reducible exact ih0 _ _ _ _ _)
   | (with_reducible exact ih1 _ _ _ _ _ _)
   | (with_reducible exact ih2 _ _)
   | (with_reducible exact ih3 _ _ _)
   | (with_reducible exact accountingref02_divide.mono _ _ _ _)
   | (with_reducible exact LeO.refl _)
   | (with_reducible exact LeO.none _)
   | (with_reducible refine LeO.ite ?_ ?_)
   | (with_reducible refine LeO.bind ?_ (fun _ => ?_))
   | exact ih0 _ _ _ _ _
   | exact ih1 _ _ _ _ _ _
   | exact ih2 _ _
   | exact ih3 _ _ _
   | exact accountingref02_divide.mono _ _ _ _
   | exact LeO.none _
   | refine LeO.ite ?_ ?_
   | refine LeO.bind ?_ (fun _ => ?_)
set_option maxHeartbeats 8000000 in
set_option maxRecDepth 100000 in
theorem accountingref02_MulDiv.calls (k : Nat) (a0 : Int) (a1 : Int) (a2 : Int) (a3 : Int) (r1 : Int) (r2 : Int) (w : World) (h : accountingref02_MulDiv.f k a0 a1 a2 a3 = some (r1, r2)) :
    Calls Try.prog 25 #[.int .i64 a0, .int .i64 a1, .int .i64 a2, .int .i64 a3] w fun e w' => e = .returned (.tuple #[.int .i64 r1, .int .i64 r2]) ∧ Drawn0 w w' := by
 have H : (if a3 < 1 then (accountingref02_MulDiv.j0 k a0 a1 a2 a3 true) else (accountingref02_MulDiv.j0 k a0 a1 a2 a3 (decide (a3 > 5)))) = some (r1, r2) := h; clear h; have HC5 := Aside0.mk H; clear H; go_enter Try.func25, Try.ntmps25
 go_upto_region 1 with (fail)
 go_cut [21] (fun v21 wc => ∃ (kq : Nat) (x21_4 : Bool), v21 = .bool x21_4 ∧ Aside0 (accountingref02_MulDiv.j0 kq a0 a1 a2 a3 x21_4 = some (r1, r2)) ∧ Aside0 (kq ≤ k) ∧ Drawn0 w wc)
 case first =>
  have H := HC5.out; clear HC5
  by_cases c6 : a3 < 1
  ·rw [if_pos c6] at H; have c6b0 : decide (a3 < 1) = true := decide_eq_true c6; clear c6; (first | rw [c6b0] | (simp only [i64_w, i32_w]; rw [c6b0]) | skip); have H' := Aside0.mk H; clear H
   go_wp2
   go_meet
   case rel => exact ⟨_, (true), prr1_0, H', ⟨by first | omega | exact Nat.le_refl _⟩, prr1_1⟩
  ·rw [if_neg c6] at H; have c6b0 : decide (a3 < 1) = false := decide_eq_false c6; clear c6; (first | rw [c6b0] | (simp only [i64_w, i32_w]; rw [c6b0]) | skip); have H' := Aside0.mk H; clear H
   go_wp2
   go_meet
   case rel => exact ⟨_, (decide (a3 > 5)), prr1_0, H', ⟨by first | omega | exact Nat.le_refl _⟩, prr1_1⟩
 case rest =>
  clear HC5; (try clear c2); (try clear p2); (try clear c6); (try clear c6b0); obtain ⟨kq, x21_4, rfl, HA, HJ4, ⟨mc4, rfl⟩⟩ := hcut
  cases kq with
  | zero => exact absurd HA.out (by simp [accountingref02_MulDiv.j0])
  | succ kj4 =>
   have H := HA.out; clear HA; simp only [accountingref02_MulDiv.j0] at H
   by_cases c7 : x21_4 = true
   ·subst c7; have H1 : (some (0, 10)) = some (r1, r2) := by rw [if_pos rfl] at H; exact H
    clear H; have H := H1; clear H1; simp only [Option.some.injEq, Prod.mk.injEq] at H; obtain ⟨rfl, rfl⟩ := H
    go_wp2
    go_ret2
    exact ⟨prr1_0, prr1_1⟩
   ·replace c7 := Bool.eq_false_iff.mpr c7; subst c7; have H1 : (if a2 = 0 then (some (0, 2)) else ((accountingref02_mag.f a0).bind fun t101 => ((accountingref02_mag.f a1).bind fun t102 => ((accountingref02_wide.f t101 t102).bind fun bt103 => ((accountingref02_mag.f a2).bind fun t105 => ((accountingref02_divide.f kj4 bt103.1 bt103.2 t105).bind fun bt106 => (if bt106.1 > 0 then (accountingref02_MulDiv.j1 kj4 a2 a3 bt106.2.1 bt106.2.2 (((decide (a0 < 0)) != (decide (a1 < 0))) != (decide (a2 < 0))) true) else (accountingref02_MulDiv.j1 kj4 a2 a3 bt106.2.1 bt106.2.2 (((decide (a0 < 0)) != (decide (a1 < 0))) != (decide (a2 < 0))) (decide (bt106.2.1 > 9223372036854775808)))))))))) = some (r1, r2) := by rw [if_neg (show ¬ (false = true) by decide)] at H; exact H
    clear H; have H := H1; clear H1
    by_cases c8 : a2 = 0
    ·rw [if_pos c8] at H; have c8b0 : (a2 == 0) = true := beq_iff_eq.mpr c8; have c8b1 : (a2 != 0) = false := bne_eq_false_iff_eq.mpr c8; clear c8; simp only [Option.some.injEq, Prod.mk.injEq] at H; obtain ⟨rfl, rfl⟩ := H
     go_wp2
     go_ret2
     exact ⟨prr1_0, prr1_1⟩
    ·rw [if_neg c8] at H; have c8b0 : (a2 == 0) = false := beq_eq_false_iff_ne.mpr c8; have c8b1 : (a2 != 0) = true := bne_iff_ne.mpr c8; replace H := Option.bind_eq_some_iff.mp H; obtain ⟨t101, A90, H⟩ := H; replace H : ((accountingref02_mag.f a1).bind fun t102 => ((accountingref02_wide.f t101 t102).bind fun bt103 => ((accountingref02_mag.f a2).bind fun t105 => ((accountingref02_divide.f kj4 bt103.1 bt103.2 t105).bind fun bt106 => (if bt106.1 > 0 then (accountingref02_MulDiv.j1 kj4 a2 a3 bt106.2.1 bt106.2.2 (((decide (a0 < 0)) != (decide (a1 < 0))) != (decide (a2 < 0))) true) else (accountingref02_MulDiv.j1 kj4 a2 a3 bt106.2.1 bt106.2.2 (((decide (a0 < 0)) != (decide (a1 < 0))) != (decide (a2 < 0))) (decide (bt106.2.1 > 9223372036854775808)))))))) = some (r1, r2) := H; have A9 := Aside0.mk A90; clear A90; replace H := Option.bind_eq_some_iff.mp H; obtain ⟨t102, A100, H⟩ := H; replace H : ((accountingref02_wide.f t101 t102).bind fun bt103 => ((accountingref02_mag.f a2).bind fun t105 => ((accountingref02_divide.f kj4 bt103.1 bt103.2 t105).bind fun bt106 => (if bt106.1 > 0 then (accountingref02_MulDiv.j1 kj4 a2 a3 bt106.2.1 bt106.2.2 (((decide (a0 < 0)) != (decide (a1 < 0))) != (decide (a2 < 0))) true) else (accountingref02_MulDiv.j1 kj4 a2 a3 bt106.2.1 bt106.2.2 (((decide (a0 < 0)) != (decide (a1 < 0))) != (decide (a2 < 0))) (decide (bt106.2.1 > 9223372036854775808))))))) = some (r1, r2) := H; have A10 := Aside0.mk A100; clear A100; replace H := Option.bind_eq_some_iff.mp H; obtain ⟨⟨t103, t104⟩, A110, H⟩ := H; replace H : ((accountingref02_mag.f a2).bind fun t105 => ((accountingref02_divide.f kj4 t103 t104 t105).bind fun bt106 => (if bt106.1 > 0 then (accountingref02_MulDiv.j1 kj4 a2 a3 bt106.2.1 bt106.2.2 (((decide (a0 < 0)) != (decide (a1 < 0))) != (decide (a2 < 0))) true) else (accountingref02_MulDiv.j1 kj4 a2 a3 bt106.2.1 bt106.2.2 (((decide (a0 < 0)) != (decide (a1 < 0))) != (decide (a2 < 0))) (decide (bt106.2.1 > 9223372036854775808)))))) = some (r1, r2) := H; have A11 := Aside0.mk A110; clear A110; replace H := Option.bind_eq_some_iff.mp H; obtain ⟨t105, A120, H⟩ := H; replace H : ((accountingref02_divide.f kj4 t103 t104 t105).bind fun bt106 => (if bt106.1 > 0 then (accountingref02_MulDiv.j1 kj4 a2 a3 bt106.2.1 bt106.2.2 (((decide (a0 < 0)) != (decide (a1 < 0))) != (decide (a2 < 0))) true) else (accountingref02_MulDiv.j1 kj4 a2 a3 bt106.2.1 bt106.2.2 (((decide (a0 < 0)) != (decide (a1 < 0))) != (decide (a2 < 0))) (decide (bt106.2.1 > 9223372036854775808))))) = some (r1, r2) := H; have A12 := Aside0.mk A120; clear A120; replace H := Option.bind_eq_some_iff.mp H; obtain ⟨⟨t106, t107, t108⟩, A130, H⟩ := H; replace H : (if t106 > 0 then (accountingref02_MulDiv.j1 kj4 a2 a3 t107 t108 (((decide (a0 < 0)) != (decide (a1 < 0))) != (decide (a2 < 0))) true) else (accountingref02_MulDiv.j1 kj4 a2 a3 t107 t108 (((decide (a0 < 0)) != (decide (a1 < 0))) != (decide (a2 < 0))) (decide (t107 > 9223372036854775808)))) = some (r1, r2) := H; have A13 := Aside0.mk A130; clear A130; have HC14 := Aside0.mk H; clear H
     go_upto_region 8 with (first | ((with_reducible refine gate_callee (f := 45) rfl ?_); refine goesL_ (some 26) rfl rfl Try.func45 (by kernel_rfl) rfl #[.int .i64 a0] rfl prr1_2 ?_; (with_reducible refine (accountingref02_mag.calls a0 t101 _ A9.out).mono ?_); rintro e w' ⟨rfl, ⟨nd, rfl⟩⟩; refine ⟨_, rfl, ?_⟩) | ((with_reducible refine gate_callee (f := 45) rfl ?_); refine goesL_ (some 28) rfl rfl Try.func45 (by kernel_rfl) rfl #[.int .i64 a1] rfl prr1_2 ?_; (with_reducible refine (accountingref02_mag.calls a1 t102 _ A10.out).mono ?_); rintro e w' ⟨rfl, ⟨nd, rfl⟩⟩; refine ⟨_, rfl, ?_⟩) | ((with_reducible refine gate_callee (f := 44) rfl ?_); refine goesL_ (some 29) rfl rfl Try.func44 (by kernel_rfl) rfl #[.int .u64 t101, .int .u64 t102] rfl prr1_2 ?_; (with_reducible refine (accountingref02_wide.calls t101 t102 t103 t104 _ A11.out).mono ?_); rintro e w' ⟨rfl, ⟨nd, rfl⟩⟩; refine ⟨_, rfl, ?_⟩) | ((with_reducible refine gate_callee (f := 45) rfl ?_); refine goesL_ (some 36) rfl rfl Try.func45 (by kernel_rfl) rfl #[.int .i64 a2] rfl prr1_2 ?_; (with_reducible refine (accountingref02_mag.calls a2 t105 _ A12.out).mono ?_); rintro e w' ⟨rfl, ⟨nd, rfl⟩⟩; refine ⟨_, rfl, ?_⟩) | ((with_reducible refine gate_callee (f := 46) rfl ?_); refine goesL_ (some 37) rfl rfl Try.func46 (by kernel_rfl) rfl #[.int .u64 t103, .int .u64 t104, .int .u64 t105] rfl prr1_2 ?_; (with_reducible refine (accountingref02_divide.calls kj4 t103 t104 t105 t106 t107 t108 _ A13.out).mono ?_); rintro e w' ⟨rfl, ⟨nd, rfl⟩⟩; refine ⟨_, rfl, ?_⟩))
     (try simp only [Act.put, List.setIfInBounds_toArray, List.set_cons_zero, List.set_cons_succ])
     go_cut [54] (fun v54 wc => ∃ (kq : Nat) (x54_13 : Bool), v54 = .bool x54_13 ∧ Aside0 (accountingref02_MulDiv.j1 kq a2 a3 t107 t108 (((decide (a0 < 0)) != (decide (a1 < 0))) != (decide (a2 < 0))) x54_13 = some (r1, r2)) ∧ Aside0 (kq ≤ kj4) ∧ Drawn0 w wc)
     case first =>
      have H := HC14.out; clear HC14
      by_cases c15 : t106 > 0
      ·rw [if_pos c15] at H; have c15b0 : decide (0 < t106) = true := decide_eq_true c15; clear c15; (first | rw [c15b0] | (simp only [i64_w, i32_w]; rw [c15b0]) | skip); have H' := Aside0.mk H; clear H
       go_wp2
       go_meet
       case rel => exact ⟨_, (true), prr1_0, H', ⟨by have := HJ4.out; first | omega | exact Nat.le_refl _⟩, prr1_1⟩
      ·rw [if_neg c15] at H; have c15b0 : decide (0 < t106) = false := decide_eq_false c15; clear c15; (first | rw [c15b0] | (simp only [i64_w, i32_w]; rw [c15b0]) | skip); have H' := Aside0.mk H; clear H
       go_wp2
       go_meet
       case rel => exact ⟨_, (decide (t107 > 9223372036854775808)), prr1_0, H', ⟨by have := HJ4.out; first | omega | exact Nat.le_refl _⟩, prr1_1⟩
     case rest =>
      clear HC14; (try clear c1); (try clear c2); (try clear p2); (try clear c4); (try clear c6); (try clear c6b0); (try clear c7); (try clear c8); (try clear c8b0); (try clear c8b1); (try clear c15); (try clear c15b0); (try clear p2); obtain ⟨kq, x54_13, rfl, HA, HJ13, ⟨mc13, rfl⟩⟩ := hcut
      cases kq with
      | zero => exact absurd HA.out (by simp [accountingref02_MulDiv.j1])
      | succ kj13 =>
       have H := HA.out; clear HA; simp only [accountingref02_MulDiv.j1] at H
       by_cases c16 : x54_13 = true
       ·subst c16; have H1 : (some (0, 4)) = some (r1, r2) := by rw [if_pos rfl] at H; exact H
        clear H; have H := H1; clear H1; simp only [Option.some.injEq, Prod.mk.injEq] at H; obtain ⟨rfl, rfl⟩ := H
        go_wp2
        go_ret2
        exact ⟨prr1_0, prr1_1⟩
       ·replace c16 := Bool.eq_false_iff.mpr c16; subst c16; have H1 : ((accountingref02_mag.f a2).bind fun t109 => ((accountingref02_away.f a3 (((decide (a0 < 0)) != (decide (a1 < 0))) != (decide (a2 < 0))) ((Int.tmod t107 2) == 1) t108 t109).bind fun t110 => (if t110 = true then (accountingref02_MulDiv.j2 kj13 (IntKind.u64.wrap (t107 + 1)) (((decide (a0 < 0)) != (decide (a1 < 0))) != (decide (a2 < 0)))) else (accountingref02_MulDiv.j2 kj13 t107 (((decide (a0 < 0)) != (decide (a1 < 0))) != (decide (a2 < 0))))))) = some (r1, r2) := by rw [if_neg (show ¬ (false = true) by decide)] at H; exact H
        clear H; have H := H1; clear H1; replace H := Option.bind_eq_some_iff.mp H; obtain ⟨t109, A170, H⟩ := H; replace H : ((accountingref02_away.f a3 (((decide (a0 < 0)) != (decide (a1 < 0))) != (decide (a2 < 0))) ((Int.tmod t107 2) == 1) t108 t109).bind fun t110 => (if t110 = true then (accountingref02_MulDiv.j2 kj13 (IntKind.u64.wrap (t107 + 1)) (((decide (a0 < 0)) != (decide (a1 < 0))) != (decide (a2 < 0)))) else (accountingref02_MulDiv.j2 kj13 t107 (((decide (a0 < 0)) != (decide (a1 < 0))) != (decide (a2 < 0)))))) = some (r1, r2) := H; have A17 := Aside0.mk A170; clear A170; replace H := Option.bind_eq_some_iff.mp H; obtain ⟨t110, A180, H⟩ := H; replace H : (if t110 = true then (accountingref02_MulDiv.j2 kj13 (IntKind.u64.wrap (t107 + 1)) (((decide (a0 < 0)) != (decide (a1 < 0))) != (decide (a2 < 0)))) else (accountingref02_MulDiv.j2 kj13 t107 (((decide (a0 < 0)) != (decide (a1 < 0))) != (decide (a2 < 0))))) = some (r1, r2) := H; have A18 := Aside0.mk A180; clear A180; have HC19 := Aside0.mk H; clear H
        go_upto_if 63 with (first | ((with_reducible refine gate_callee (f := 45) rfl ?_); refine goesL_ (some 62) rfl rfl Try.func45 (by kernel_rfl) rfl #[.int .i64 a2] rfl prr1_2 ?_; (with_reducible refine (accountingref02_mag.calls a2 t109 _ A17.out).mono ?_); rintro e w' ⟨rfl, ⟨nd, rfl⟩⟩; refine ⟨_, rfl, ?_⟩) | ((with_reducible refine gate_callee (f := 47) rfl ?_); refine goesL_ (some 63) rfl rfl Try.func47 (by kernel_rfl) rfl #[.int .i64 a3, .bool (((decide (a0 < 0)) != (decide (a1 < 0))) != (decide (a2 < 0))), .bool ((Int.tmod t107 2) == 1), .int .u64 t108, .int .u64 t109] rfl prr1_2 ?_; (with_reducible refine (accountingref02_away.calls a3 (((decide (a0 < 0)) != (decide (a1 < 0))) != (decide (a2 < 0))) ((Int.tmod t107 2) == 1) t108 t109 t110 _ A18.out).mono ?_); rintro e w' ⟨rfl, ⟨nd, rfl⟩⟩; refine ⟨_, rfl, ?_⟩))
        (try simp only [Act.put, List.setIfInBounds_toArray, List.set_cons_zero, List.set_cons_succ])
        go_cut [13] (fun v13 wc => ∃ (kq : Nat) (x13_18 : Int), v13 = .int .u64 x13_18 ∧ Aside0 (accountingref02_MulDiv.j2 kq x13_18 (((decide (a0 < 0)) != (decide (a1 < 0))) != (decide (a2 < 0))) = some (r1, r2)) ∧ Aside0 (kq ≤ kj13) ∧ Drawn0 w wc)
        case first =>
         have H := HC19.out; clear HC19
         by_cases c20 : t110 = true
         ·subst c20; have H1 : (accountingref02_MulDiv.j2 kj13 (IntKind.u64.wrap (t107 + 1)) (((decide (a0 < 0)) != (decide (a1 < 0))) != (decide (a2 < 0)))) = some (r1, r2) := by rw [if_pos rfl] at H; exact H
          clear H; have H := H1; clear H1; have H' := Aside0.mk H; clear H
          go_wp2
          go_meet
          case rel => exact ⟨_, (IntKind.u64.wrap (t107 + 1)), prr1_0, H', ⟨by have := HJ4.out; have := HJ13.out; first | omega | exact Nat.le_refl _⟩, prr1_1⟩
         ·replace c20 := Bool.eq_false_iff.mpr c20; subst c20; have H1 : (accountingref02_MulDiv.j2 kj13 t107 (((decide (a0 < 0)) != (decide (a1 < 0))) != (decide (a2 < 0)))) = some (r1, r2) := by rw [if_neg (show ¬ (false = true) by decide)] at H; exact H
          clear H; have H := H1; clear H1; have H' := Aside0.mk H; clear H
          go_wp2
          go_meet
          case rel => exact ⟨_, (t107), prr1_0, H', ⟨by have := HJ4.out; have := HJ13.out; first | omega | exact Nat.le_refl _⟩, prr1_1⟩
        case rest =>
         clear HC19; (try clear c1); (try clear c2); (try clear p2); (try clear c4); (try clear c6); (try clear c6b0); (try clear c7); (try clear c8); (try clear c8b0); (try clear c8b1); (try clear c13); (try clear c15); (try clear c15b0); (try clear c16); (try clear c20); (try clear p2); obtain ⟨kq, x13_18, rfl, HA, HJ18, ⟨mc18, rfl⟩⟩ := hcut
         cases kq with
         | zero => exact absurd HA.out (by simp [accountingref02_MulDiv.j2])
         | succ kj18 =>
          have H := HA.out; clear HA; simp only [accountingref02_MulDiv.j2] at H; have HC21 := Aside0.mk H; clear H
          go_upto_region 12 with (fail)
          go_cut [75] (fun v75 wc => ∃ (kq : Nat) (x75_20 : Bool), v75 = .bool x75_20 ∧ Aside0 (accountingref02_MulDiv.j3 kq x13_18 (((decide (a0 < 0)) != (decide (a1 < 0))) != (decide (a2 < 0))) x75_20 = some (r1, r2)) ∧ Aside0 (kq ≤ kj18) ∧ Drawn0 w wc)
          case first =>
           have H := HC21.out; clear HC21
           by_cases c22 : x13_18 > 9223372036854775808
           ·rw [if_pos c22] at H; have c22b0 : decide (9223372036854775808 < x13_18) = true := decide_eq_true c22; clear c22; (first | rw [c22b0] | (simp only [i64_w, i32_w]; rw [c22b0]) | skip); have H' := Aside0.mk H; clear H
            go_wp2
            go_meet
            case rel => exact ⟨_, (true), prr1_0, H', ⟨prr1_3⟩, prr1_1⟩
           ·rw [if_neg c22] at H; have c22b0 : decide (9223372036854775808 < x13_18) = false := decide_eq_false c22; clear c22; (first | rw [c22b0] | (simp only [i64_w, i32_w]; rw [c22b0]) | skip)
            by_cases c23 : x13_18 = 9223372036854775808
            ·rw [if_pos c23] at H; have c23b0 : (x13_18 == 9223372036854775808) = true := beq_iff_eq.mpr c23; have c23b1 : (x13_18 != 9223372036854775808) = false := bne_eq_false_iff_eq.mpr c23; clear c23; have H' := Aside0.mk H; clear H
             go_wp2
             go_meet
             case rel => exact ⟨_, (!(((decide (a0 < 0)) != (decide (a1 < 0))) != (decide (a2 < 0)))), (by first | rfl | (simp; done) | (simp [*]; done) | (congr 1; generalize decide (a0 < 0) = q0_; generalize decide (a1 < 0) = q1_; generalize decide (a2 < 0) = q2_; revert q0_ q1_ q2_; decide)), H', ⟨prr1_3⟩, prr1_1⟩
            ·rw [if_neg c23] at H; have c23b0 : (x13_18 == 9223372036854775808) = false := beq_eq_false_iff_ne.mpr c23; have c23b1 : (x13_18 != 9223372036854775808) = true := bne_iff_ne.mpr c23; have H' := Aside0.mk H; clear H
             go_wp2
             go_meet
             case rel => exact ⟨_, (false), prr1_0, H', ⟨prr1_3⟩, prr1_1⟩
          case rest =>
           clear HC21; (try clear c1); (try clear c2); (try clear p2); (try clear c4); (try clear c6); (try clear c6b0); (try clear c7); (try clear c8); (try clear c8b0); (try clear c8b1); (try clear c13); (try clear c15); (try clear c15b0); (try clear c16); (try clear c18); (try clear c20); (try clear c22); (try clear c22b0); (try clear c23); (try clear c23b0); (try clear c23b1); (try clear p2); obtain ⟨kq, x75_20, rfl, HA, HJ20, ⟨mc20, rfl⟩⟩ := hcut
           cases kq with
           | zero => exact absurd HA.out (by simp [accountingref02_MulDiv.j3])
           | succ kj20 =>
            have H := HA.out; clear HA; simp only [accountingref02_MulDiv.j3] at H
            by_cases c24 : x75_20 = true
            ·subst c24; have H1 : (some (0, 4)) = some (r1, r2) := by rw [if_pos rfl] at H; exact H
             clear H; have H := H1; clear H1; simp only [Option.some.injEq, Prod.mk.injEq] at H; obtain ⟨rfl, rfl⟩ := H
             go_wp2
             go_ret2
             exact ⟨prr1_0, prr1_1⟩
            ·replace c24 := Bool.eq_false_iff.mpr c24; subst c24; have H1 : (if x13_18 = 9223372036854775808 then (some ((-9223372036854775808), 0)) else (if (((decide (a0 < 0)) != (decide (a1 < 0))) != (decide (a2 < 0))) = true then (some (wrap64 (-(wrap64 (x13_18))), 0)) else (some (wrap64 (x13_18), 0)))) = some (r1, r2) := by rw [if_neg (show ¬ (false = true) by decide)] at H; exact H
             clear H; have H := H1; clear H1
             by_cases c25 : x13_18 = 9223372036854775808
             ·rw [if_pos c25] at H; have c25b0 : (x13_18 == 9223372036854775808) = true := beq_iff_eq.mpr c25; have c25b1 : (x13_18 != 9223372036854775808) = false := bne_eq_false_iff_eq.mpr c25; clear c25; simp only [Option.some.injEq, Prod.mk.injEq] at H; obtain ⟨rfl, rfl⟩ := H
              go_wp2
              go_ret2
              exact ⟨prr1_0, prr1_1⟩
             ·rw [if_neg c25] at H; have c25b0 : (x13_18 == 9223372036854775808) = false := beq_eq_false_iff_ne.mpr c25; have c25b1 : (x13_18 != 9223372036854775808) = true := bne_iff_ne.mpr c25
              by_cases c26 : (((decide (a0 < 0)) != (decide (a1 < 0))) != (decide (a2 < 0))) = true
              ·rw [if_pos c26] at H; have c26b0 : (((decide (a0 < 0)) != (decide (a1 < 0))) != (decide (a2 < 0))) = true := c26; have c26n0 : (!(!decide (a0 < 0) == decide (a1 < 0)) == decide (a2 < 0)) = true := by (have z_ := c26b0; revert z_; generalize decide (a0 < 0) = q0_; generalize decide (a1 < 0) = q1_; generalize decide (a2 < 0) = q2_; revert q0_ q1_ q2_; decide)
               (try (have c26b1 : decide (((decide (a0 < 0)) != (decide (a1 < 0))) = (decide (a2 < 0))) = false := by simpa using c26)); (try (have c26b2 : (((decide (a0 < 0)) != (decide (a1 < 0))) == (decide (a2 < 0))) = false := by simpa using c26)); (try (have c26b3 : ¬ (((decide (a0 < 0)) != (decide (a1 < 0))) = (decide (a2 < 0))) := by simpa using c26)); clear c26; simp only [Option.some.injEq, Prod.mk.injEq] at H; obtain ⟨rfl, rfl⟩ := H
               go_wp2
               all_goals (try exact Bool.noConfusion (c26n0.symm.trans (by assumption : (!(!decide (a0 < 0) == decide (a1 < 0)) == decide (a2 < 0)) = false)))
               go_ret2
               exact ⟨prr1_0, prr1_1⟩
              ·rw [if_neg c26] at H; have c26b0 : (((decide (a0 < 0)) != (decide (a1 < 0))) != (decide (a2 < 0))) = false := by simpa using c26
               have c26n0 : (!(!decide (a0 < 0) == decide (a1 < 0)) == decide (a2 < 0)) = false := by (have z_ := c26b0; revert z_; generalize decide (a0 < 0) = q0_; generalize decide (a1 < 0) = q1_; generalize decide (a2 < 0) = q2_; revert q0_ q1_ q2_; decide)
               (try (have c26b1 : decide (((decide (a0 < 0)) != (decide (a1 < 0))) = (decide (a2 < 0))) = true := by simpa using c26)); (try (have c26b2 : (((decide (a0 < 0)) != (decide (a1 < 0))) == (decide (a2 < 0))) = true := by simpa using c26)); clear c26; simp only [Option.some.injEq, Prod.mk.injEq] at H; obtain ⟨rfl, rfl⟩ := H
               go_wp2
               all_goals (try exact Bool.noConfusion (c26n0.symm.trans (by assumption : (!(!decide (a0 < 0) == decide (a1 < 0)) == decide (a2 < 0)) = true)))
               go_ret2
               exact ⟨prr1_0, prr1_1⟩
end Go.Proofs.Ytgjpegmhlnabpaa.M
end
section
namespace Go.Proofs.Ytgjpegmhlnabpaa.M
open Go.RowKit Go.Proofs.YtgjpegmhlnabpaaW.PrintWords Dv
set_option linter.unusedVariables false
set_option linter.unusedSimpArgs false
theorem accountingref02_mag.eq {a : Int} (h : inI a) : accountingref02_mag.f a = some (ab a) := by
  unfold inI at h
  unfold accountingref02_mag.f ab
  simp only [wrap_u64]
  split
  · congr 1; unfold wrap64; omega
  · congr 1; omega
theorem accountingref02_wide.eq {x y : Int} (h0 : 0 ≤ x) (h1 : x < 18446744073709551616) (h2 : 0 ≤ y) (h3 : y < 18446744073709551616) : accountingref02_wide.f x y = some (x * y / 18446744073709551616, x * y % 18446744073709551616) := by
  have e : x * y = (x / 4294967296) * (y / 4294967296) * 18446744073709551616 + ((x / 4294967296) * (y % 4294967296) + (x % 4294967296) * (y / 4294967296)) * 4294967296 + (x % 4294967296) * (y % 4294967296) := by
    have h1 : x = x / 4294967296 * 4294967296 + x % 4294967296 := by omega
    have h2 : y = y / 4294967296 * 4294967296 + y % 4294967296 := by omega
    generalize x / 4294967296 = p at *; generalize y / 4294967296 = u at *; generalize x % 4294967296 = q at *; generalize y % 4294967296 = v at *; subst h1 h2; rw [Int.add_mul, Int.mul_add, Int.mul_add]; have e1 : p * 4294967296 * (u * 4294967296) = p * u * 18446744073709551616 := by rw [Int.mul_assoc p, Int.mul_left_comm 4294967296 u, ← Int.mul_assoc p]; rfl
    have e2 : p * 4294967296 * v = p * v * 4294967296 := Int.mul_right_comm _ _ _; have e3 : q * (u * 4294967296) = q * u * 4294967296 := (Int.mul_assoc _ _ _).symm; rw [e1, e2, e3]; omega
  have p1 := prod_le (x / 4294967296) (y / 4294967296) (by omega) (by omega) (by omega) (by omega); have p2 := prod_le (x / 4294967296) (y % 4294967296) (by omega) (by omega) (by omega) (by omega); have p3 := prod_le (x % 4294967296) (y / 4294967296) (by omega) (by omega) (by omega) (by omega); have p4 := prod_le (x % 4294967296) (y % 4294967296) (by omega) (by omega) (by omega) (by omega); have td : ∀ z : Int, 0 ≤ z → Int.tdiv z 4294967296 = z / 4294967296 := fun z hz => Int.tdiv_eq_ediv_of_nonneg hz; have tm : ∀ z : Int, 0 ≤ z → Int.tmod z 4294967296 = z % 4294967296 := fun z hz => Int.tmod_eq_emod_of_nonneg hz; have uw : ∀ z : Int, 0 ≤ z → z < 18446744073709551616 → IntKind.u64.wrap z = z := fun z a b => u64w a b
  unfold accountingref02_wide.f
  rw [td x h0, td y h2, tm x h0, tm y h2, e]; rw [uw (x / 4294967296) (by omega) (by omega), uw (y / 4294967296) (by omega) (by omega)]; generalize x / 4294967296 = a1 at *; generalize y / 4294967296 = b1 at *; generalize x % 4294967296 = a0 at *; generalize y % 4294967296 = b0 at *; clear e; rw [uw (a1 * b1) (by omega) (by omega), uw (a1 * b0) (by omega) (by omega), uw (a0 * b1) (by omega) (by omega), uw (a0 * b0) (by omega) (by omega)]; generalize a1 * b1 = P1 at *; generalize a1 * b0 = P2 at *; generalize a0 * b1 = P3 at *; generalize a0 * b0 = P4 at *; rw [td P4 (by omega), tm P4 (by omega), uw (P4 / 4294967296) (by omega) (by omega), uw (P2 + P4 / 4294967296) (by omega) (by omega)]; obtain ⟨M, hM⟩ : ∃ M, M = P2 + P4 / 4294967296 := ⟨_, rfl⟩; rw [← hM, td M (by omega), tm M (by omega), uw (M / 4294967296) (by omega) (by omega), uw (P1 + M / 4294967296) (by omega) (by omega), uw (P3 + M % 4294967296) (by omega) (by omega)]; obtain ⟨O, hO⟩ : ∃ O, O = P3 + M % 4294967296 := ⟨_, rfl⟩; rw [← hO, td O (by omega), tm O (by omega), uw (O / 4294967296) (by omega) (by omega), uw (O % 4294967296 * 4294967296) (by omega) (by omega), uw (P1 + M / 4294967296 + O / 4294967296) (by omega) (by omega), uw (O % 4294967296 * 4294967296 + P4 % 4294967296) (by omega) (by omega)]
  congr 2
  · omega
  · omega
theorem accountingref02_divide.next (i : Nat) (h : i ≤ 127) : wrap64 ((i : Int) + 1) = ((i + 1 : Nat) : Int) := by rw [w64 (by omega) (by omega)]; omega
theorem accountingref02_divide.go (P c : Int) (h0 : 0 ≤ P) (h1 : P < 340282366920938463463374607431768211456) (hc : 0 < c) (hc1 : c < 18446744073709551616) : ∀ (g i : Nat) (x0 x1 q0 q1 r : Int), i + g = 128 → 0 ≤ x0 → x0 < 18446744073709551616 → 0 ≤ x1 → x1 < 18446744073709551616 → 0 ≤ q0 → q0 < 18446744073709551616 → 0 ≤ q1 → q1 < 18446744073709551616 → 0 ≤ r → r < c →
    2 ^ i * P = 340282366920938463463374607431768211456 * (c * (q0 * 18446744073709551616 + q1) + r) + (x0 * 18446744073709551616 + x1) → q0 * 18446744073709551616 + q1 < 2 ^ i →
    Ev (fun k => accountingref02_divide.l0 k x0 x1 c q0 q1 r i) (P / c / 18446744073709551616, P / c % 18446744073709551616, P % c)
  | 0, i, x0, x1, q0, q1, r, hi, a0, a1, b0, b1, u0, u1, v0, v1, r0, r1, hW, hQ => by
    obtain rfl : i = 128 := by omega
    refine Ev.succ ?_; have g : ¬ ((128 : Nat) : Int) < 128 := by omega
    simp only [accountingref02_divide.l0, if_neg g]; have e : (2 : Int) ^ 128 = 340282366920938463463374607431768211456 := by decide
    rw [e] at hW hQ; generalize hE : c * (q0 * 18446744073709551616 + q1) = E at hW; have hP : P = r + c * (q0 * 18446744073709551616 + q1) := by rw [hE]; omega
    have d1 : P / c = q0 * 18446744073709551616 + q1 := by
      rw [hP, Int.add_mul_ediv_left _ _ (by omega), Int.ediv_eq_zero_of_lt r0 r1]; omega
    have d2 : P % c = r := by
      rw [hP, Int.add_mul_emod_self_left, Int.emod_eq_of_lt r0 r1]
    rw [d1, d2, show (q0 * 18446744073709551616 + q1) / 18446744073709551616 = q0 by omega, show (q0 * 18446744073709551616 + q1) % 18446744073709551616 = q1 by omega]; exact Ev.const _
  | g + 1, i, x0, x1, q0, q1, r, hi, a0, a1, b0, b1, u0, u1, v0, v1, r0, r1, hW, hQ => by
    have hi' : i ≤ 127 := by omega
    have hp : (2 : Int) ^ i ≤ 2 ^ 127 := by
      have : (2 : Nat) ^ i ≤ 2 ^ 127 := Nat.pow_le_pow_right (by decide) hi'
      exact_mod_cast this
    have e127 : (2 : Int) ^ 127 = 170141183460469231731687303715884105728 := by decide
    rw [e127] at hp; have hpow : (2 : Int) ^ (i + 1) = 2 * 2 ^ i := by rw [Int.pow_succ]; exact Int.mul_comm _ _
    have hW2 : (2 : Int) ^ (i + 1) * P = 2 * (2 ^ i * P) := by rw [hpow, Int.mul_assoc]
    generalize (2 : Int) ^ i * P = W at hW hW2; generalize (2 : Int) ^ i = B at hQ hp hpow; clear e127; have td : ∀ z : Int, 0 ≤ z → Int.tdiv z 9223372036854775808 = z / 9223372036854775808 := fun z hz => Int.tdiv_eq_ediv_of_nonneg hz; have uw : ∀ z : Int, 0 ≤ z → z < 18446744073709551616 → IntKind.u64.wrap z = z := fun z a b => u64w a b; have em : ∀ z : Int, IntKind.u64.wrap z = z % 18446744073709551616 := wrap_u64; have d0 := td x0 a0; have d1 := td x1 b0; have d2 := td q1 v0
    have n0 : IntKind.u64.wrap (IntKind.u64.wrap (2 * x0) + IntKind.u64.wrap (x1 / 9223372036854775808)) = (2 * x0) % 18446744073709551616 + x1 / 9223372036854775808 := by
      rw [em, em, em]; omega
    have n1 : IntKind.u64.wrap (2 * x1) = (2 * x1) % 18446744073709551616 := em _
    have n2 : IntKind.u64.wrap (IntKind.u64.wrap (2 * q0) + IntKind.u64.wrap (q1 / 9223372036854775808)) = 2 * q0 + q1 / 9223372036854775808 := by
      rw [em, em, em]; omega
    have n3 : IntKind.u64.wrap (2 * q1) = (2 * q1) % 18446744073709551616 := em _; have n4 : IntKind.u64.wrap (IntKind.u64.wrap (2 * q1) + 1) = (2 * q1) % 18446744073709551616 + 1 := by rw [em, em]; omega
    have n5 : IntKind.u64.wrap (IntKind.u64.wrap (2 * r) + IntKind.u64.wrap (x0 / 9223372036854775808)) = (2 * r) % 18446744073709551616 + x0 / 9223372036854775808 := by
      rw [em, em, em]; omega
    have n6 : wrap64 ((i : Int) + 1) = ((i + 1 : Nat) : Int) := accountingref02_divide.next i hi'; have gi : (i : Int) < 128 := Int.lt_of_le_of_lt (Int.ofNat_le.2 hi') (by decide); have hE : c * (q0 * 18446744073709551616 + q1) + c * (q0 * 18446744073709551616 + q1) = c * (2 * (q0 * 18446744073709551616 + q1)) := by rw [← Int.mul_add]; congr 1; omega
    have hE1 : c * (2 * (q0 * 18446744073709551616 + q1) + 1) = c * (2 * (q0 * 18446744073709551616 + q1)) + c := by rw [Int.mul_add, Int.mul_one]
    have f1 : (2 * q0 + q1 / 9223372036854775808) * 18446744073709551616 + (2 * q1) % 18446744073709551616 = 2 * (q0 * 18446744073709551616 + q1) := by omega
    have f2 : (2 * q0 + q1 / 9223372036854775808) * 18446744073709551616 + ((2 * q1) % 18446744073709551616 + 1) = 2 * (q0 * 18446744073709551616 + q1) + 1 := by omega
    have f3 : 2 * (x0 * 18446744073709551616 + x1) = 340282366920938463463374607431768211456 * (x0 / 9223372036854775808) + (((2 * x0) % 18446744073709551616 + x1 / 9223372036854775808) * 18446744073709551616 + (2 * x1) % 18446744073709551616) := by omega
    -- with a subtraction
    have S : ∀ r' : Int, r' = 2 * r + x0 / 9223372036854775808 - c → 0 ≤ r' → r' < c → Ev (fun k => accountingref02_divide.l0 k ((2 * x0) % 18446744073709551616 + x1 / 9223372036854775808) ((2 * x1) % 18446744073709551616) c (2 * q0 + q1 / 9223372036854775808) ((2 * q1) % 18446744073709551616 + 1) r' ((i + 1 : Nat) : Int)) (P / c / 18446744073709551616, P / c % 18446744073709551616, P % c) := by
      intro r' hr q2 q3; refine accountingref02_divide.go P c h0 h1 hc hc1 g (i + 1) _ _ _ _ r' (by omega) (by omega) (by omega) (by omega) (by omega) (by omega) (by omega) (by omega) (by omega) q2 q3 ?_ ?_
      · rw [f2, hE1, hW2, hW]; generalize c * (q0 * 18446744073709551616 + q1) = E at *; generalize c * (2 * (q0 * 18446744073709551616 + q1)) = E2 at *
        omega
      · rw [f2, hpow]; omega
    have N : ∀ r' : Int, r' = 2 * r + x0 / 9223372036854775808 → 0 ≤ r' → r' < c → Ev (fun k => accountingref02_divide.l0 k ((2 * x0) % 18446744073709551616 + x1 / 9223372036854775808) ((2 * x1) % 18446744073709551616) c (2 * q0 + q1 / 9223372036854775808) ((2 * q1) % 18446744073709551616) r' ((i + 1 : Nat) : Int)) (P / c / 18446744073709551616, P / c % 18446744073709551616, P % c) := by
      intro r' hr q2 q3; refine accountingref02_divide.go P c h0 h1 hc hc1 g (i + 1) _ _ _ _ r' (by omega) (by omega) (by omega) (by omega) (by omega) (by omega) (by omega) (by omega) (by omega) q2 q3 ?_ ?_
      · rw [f1, hW2, hW]; generalize c * (q0 * 18446744073709551616 + q1) = E at *; generalize c * (2 * (q0 * 18446744073709551616 + q1)) = E2 at *
        omega
      · rw [f1, hpow]; omega
    refine Ev.succ ?_; simp only [accountingref02_divide.l0, if_pos gi, d0, d1, d2, n0, n1, n2, n4, n5, n6]
    by_cases hb : r ≥ 9223372036854775808
    · simp only [if_pos hb]; rw [em]; exact S _ (by omega) (by omega) (by omega)
    · by_cases hb2 : (2 * r) % 18446744073709551616 + x0 / 9223372036854775808 ≥ c
      · simp only [if_neg hb, if_pos hb2]; rw [em]; exact S _ (by omega) (by omega) (by omega)
      · simp only [if_neg hb, if_neg hb2, n3]; exact N _ (by omega) (by omega) (by omega)
theorem accountingref02_divide.eq {P c : Int} (h0 : 0 ≤ P) (h1 : P < 340282366920938463463374607431768211456) (hc : 0 < c) (hc1 : c < 18446744073709551616) : Ev (fun k => accountingref02_divide.f k (P / 18446744073709551616) (P % 18446744073709551616) c) (P / c / 18446744073709551616, P / c % 18446744073709551616, P % c) :=
  accountingref02_divide.go P c h0 h1 hc hc1 128 0 _ _ 0 0 0 rfl (by omega) (by omega) (by omega) (by omega) (by omega) (by omega) (by omega) (by omega) (by omega) hc (by simp; omega) (by simp)
theorem accountingref02_away.eq {mode : Int} {neg : Bool} {q r c : Int} (hq : 0 ≤ q) (hm : 1 ≤ mode ∧ mode ≤ 5) (h0 : 0 ≤ r) (h1 : r < c) (h2 : c < 18446744073709551616) : accountingref02_away.f mode neg ((Int.tmod q 2) == 1) r c = some (awayv mode neg q r c) := by
  have e : IntKind.u64.wrap (c - r) = c - r := u64w (by omega) (by omega); have e2 : Int.tmod q 2 = q % 2 := Int.tmod_eq_emod_of_nonneg hq
  unfold accountingref02_away.f awayv
  rw [e, e2]; have hmm : mode = 1 ∨ mode = 2 ∨ mode = 3 ∨ mode = 4 ∨ mode = 5 := by omega
  have hrc : (0 < r) ↔ ¬ r = 0 := by omega
  rcases hmm with rfl | rfl | rfl | rfl | rfl
  · simp
  · by_cases hr : r = 0 <;> simp [hr]
    omega
  · by_cases hr : r = 0 <;> simp [hr]
    omega
  · by_cases hr : r = 0
    · subst hr; have x1 : ¬ (0 : Int) > c - 0 := by omega
      have x2 : ¬ (0 : Int) = c - 0 := by omega
      rw [if_neg (by decide), if_neg (by decide), if_pos rfl, if_neg x1, if_neg x2]
      simp
    · by_cases h3 : r > c - r
      · have h4 : c - r < r := h3
        simp [h3, hr]
      · have h4 : ¬ c - r < r := h3
        by_cases h5 : r = c - r
        · rw [if_neg (by decide), if_neg (by decide), if_pos rfl, if_neg h3, if_pos h5]
          simp [h4, ← h5, hr]
          by_cases h6 : q % 2 = 1 <;> simp [h6]
        · simp [h3, h4, h5]
  · by_cases hr : r = 0 <;> cases neg <;> simp [hr]
    omega
theorem rsignv_big {neg : Bool} {z : Int} (h : 9223372036854775808 < z) : signv neg z = (0, 4) := by
  unfold signv
  cases neg
  · simp; omega
  · simp; omega
theorem rnegv_eq {a b c : Int} : negv a b c = if (decide (ab a * ab b = 0)) = true then false else (((decide (a < 0)) != (decide (b < 0))) != (decide (c < 0))) := by
  unfold negv
  have e : (ab a * ab b = 0) ↔ (a * b = 0) := by
    rw [Int.mul_eq_zero, Int.mul_eq_zero, ab_zero, ab_zero]
  by_cases h : a * b = 0
  · simp [e, h]
  · simp [e, h]
theorem accountingref02_MulDiv.j2_eq {z : Int} {neg : Bool} (h0 : 0 ≤ z) (h1 : z ≤ 18446744073709551615) : Ev (fun k => accountingref02_MulDiv.j2 k z neg) (signv neg z) := by
  have J : ∀ b, Ev (fun k => accountingref02_MulDiv.j3 k z neg b) (if b = true then (0, 4) else if z = 9223372036854775808 then (-9223372036854775808, 0) else if neg = true then (wrap64 (-(wrap64 z)), 0) else (wrap64 z, 0)) := by
    intro b; refine Ev.succ ?_
    cases b
    · simp only [accountingref02_MulDiv.j3, Bool.false_eq_true, if_false]
      split
      · exact Ev.const _
      · cases neg
        · simp only [Bool.false_eq_true, if_false]; exact Ev.const _
        · simp only [if_true]; exact Ev.const _
    · simp only [accountingref02_MulDiv.j3, if_true]; exact Ev.const _
  refine Ev.succ ?_
  by_cases h2 : z > 9223372036854775808
  · simp only [accountingref02_MulDiv.j2, if_pos h2]; have := J true; simp only [if_true] at this; rw [rsignv_big h2]; exact this
  · by_cases h3 : z = 9223372036854775808
    · simp only [accountingref02_MulDiv.j2, if_neg h2, if_pos h3]; have := J (!neg); subst h3
      unfold signv
      cases neg
      · simpa using this
      · simpa using this
    · simp only [accountingref02_MulDiv.j2, if_neg h2, if_neg h3]; have := J false
      unfold signv
      simp only [Bool.false_eq_true, if_false, if_neg h3] at this; rw [w64 (n := z) (by omega) (by omega), w64 (n := -z) (by omega) (by omega)] at this; rw [if_neg h2, if_neg (show ¬ z ≥ 9223372036854775808 by omega)]; exact this
theorem accountingref02_MulDiv.eq {a b c : Int} (mode : Int) (ha : inI a) (hb : inI b) (hc : inI c) : Ev (fun k => accountingref02_MulDiv.f k a b c mode) (mdv a b c mode) := by
  unfold mdv
  by_cases hm : mode < 1 ∨ mode > 5
  · rw [if_pos hm]
    have j : Ev (fun k => accountingref02_MulDiv.j0 k a b c mode true) (0, 10) := by
      refine Ev.succ ?_; simp only [accountingref02_MulDiv.j0, if_true]; exact Ev.const _
    by_cases h1 : mode < 1
    · simp only [accountingref02_MulDiv.f, if_pos h1]; exact j
    · have h2 : mode > 5 := by omega
      simp only [accountingref02_MulDiv.f, if_neg h1, decide_eq_true h2]; exact j
  rw [if_neg hm]; have h1 : ¬ mode < 1 := by omega
  have h2 : ¬ mode > 5 := by omega
  simp only [accountingref02_MulDiv.f, if_neg h1, decide_eq_false h2]; refine Ev.succ ?_; simp only [accountingref02_MulDiv.j0, Bool.false_eq_true, if_false]
  by_cases h3 : c = 0
  · simp only [if_pos h3]; exact Ev.const _
  have ba := ab_bound ha; have bb := ab_bound hb; have bc := ab_bound hc; have pc := ab_pos h3; have bp := prod_ab ha hb; simp only [if_neg h3, accountingref02_mag.eq ha, accountingref02_mag.eq hb, accountingref02_mag.eq hc, Option.bind_some, accountingref02_wide.eq ba.1 (show ab a < 18446744073709551616 by omega) bb.1 (show ab b < 18446744073709551616 by omega)]; refine Ev.bind (accountingref02_divide.eq bp.1 (by have := bp.2; omega) pc (by omega)) ?_; have q0 : 0 ≤ ab a * ab b / ab c := Int.ediv_nonneg bp.1 (by omega); have r0 : 0 ≤ ab a * ab b % ab c := Int.emod_nonneg _ (by omega); have r1 : ab a * ab b % ab c < ab c := Int.emod_lt_of_pos _ pc
  have hneg : (((decide (a < 0)) != (decide (b < 0))) != (decide (c < 0))) = negv a b c ∨ ab a * ab b = 0 := by
    by_cases hp : ab a * ab b = 0
    · exact .inr hp
    · refine .inl ?_; rw [rnegv_eq]; simp [hp]
  by_cases hb : ab a * ab b / ab c > 9223372036854775808
  · have big : signv (negv a b c) (sizev a b c mode) = (0, 4) := rsignv_big (by unfold sizev; split <;> omega); rw [big]
    have j : ∀ x y z w u, Ev (fun k => accountingref02_MulDiv.j1 k x y z w u true) (0, 4) := fun x y z w u => by
      refine Ev.succ ?_; simp only [accountingref02_MulDiv.j1, if_true]; exact Ev.const _
    by_cases hh : ab a * ab b / ab c / 18446744073709551616 > 0
    · simp only [if_pos hh]; exact j _ _ _ _ _
    · have : ab a * ab b / ab c % 18446744073709551616 > 9223372036854775808 := by omega
      simp only [if_neg hh, decide_eq_true this]; exact j _ _ _ _ _
  · have hh : ¬ ab a * ab b / ab c / 18446744073709551616 > 0 := by omega
    have hl : ab a * ab b / ab c % 18446744073709551616 = ab a * ab b / ab c := by omega
    simp only [if_neg hh, hl, decide_eq_false hb]; refine Ev.succ ?_; have aw := accountingref02_away.eq (mode := mode) (neg := ((decide (a < 0)) != (decide (b < 0))) != (decide (c < 0))) q0 (by omega) r0 r1 (show ab c < 18446744073709551616 by omega); simp only [accountingref02_MulDiv.j1, Bool.false_eq_true, if_false, accountingref02_mag.eq hc, Option.bind_some, aw]; have uw : IntKind.u64.wrap (ab a * ab b / ab c + 1) = ab a * ab b / ab c + 1 := u64w (by omega) (by omega)
    unfold sizev
    rcases hneg with hneg | hp
    · rw [hneg]
      split
      · rw [uw]; exact accountingref02_MulDiv.j2_eq (by omega) (by omega)
      · rw [Int.add_zero]; exact accountingref02_MulDiv.j2_eq q0 (by omega)
    · have z1 : ∀ n, awayv mode n (ab a * ab b / ab c) (ab a * ab b % ab c) (ab c) = false := fun n => by unfold awayv; simp [hp]
      simp only [z1, Bool.false_eq_true, if_false, Int.add_zero]; have := accountingref02_MulDiv.j2_eq (z := ab a * ab b / ab c) (neg := ((decide (a < 0)) != (decide (b < 0))) != (decide (c < 0))) q0 (by omega); have s0 : ∀ n, signv n (ab a * ab b / ab c) = (0, 0) := fun n => by unfold signv; rw [hp]; cases n <;> simp
      rw [s0] at this ⊢; exact this
end Go.Proofs.Ytgjpegmhlnabpaa.M
end
section
namespace Go.Proofs.Ytgjpegmhlnabpaa.M
open Go.RowKit Go.Proofs.YtgjpegmhlnabpaaW.PrintWords Go.Proofs.YtgjpegmhlnabpaaW.PrintLast Go.Proofs.YtgjpegmhlnabpaaW.PrintMore
attribute [local go_sem] max2_int min2_int max_two min_two max_three min_three max_four min_four
set_option linter.unusedVariables false
set_option linter.unusedSimpArgs false
def accountingref03_divisor.l0 : Nat → Int → Int → Option (Int)
  | 0, _, _ => none
  | k + 1, x0, x1 => if x1 = 0 then (some x0) else (accountingref03_divisor.l0 k x1 (Int.tmod x0 x1))
def accountingref03_divisor.f (k : Nat) (a0 : Int) (a1 : Int) : Option (Int) := accountingref03_divisor.l0 k a0 a1
theorem accountingref03_divisor.mono_l : ∀ k, (∀ y0 y1, LeO (accountingref03_divisor.l0 k y0 y1) (accountingref03_divisor.l0 (k + 1) y0 y1))
  | 0 => fun _ _ r h => by simp [accountingref03_divisor.l0] at h
  | k + 1 => by
    have ih0 := accountingref03_divisor.mono_l k
    · intro y0 y1
      unfold accountingref03_divisor.l0
      repeat' first
      | (with_reducible exact ih0 _ _)
      | (with_reducible exact LeO.refl _)
      | (with_reducible exact LeO.none _)
      | (with_reducible refine LeO.ite ?_ ?_)
      | (with_reducible refine LeO.bind ?_ (fun _ => ?_))
      | exact ih0 _ _
      | exact LeO.none _
      | refine LeO.ite ?_ ?_
      | refine LeO.bind ?_ (fun _ => ?_)
theorem accountingref03_divisor.mono : ∀ a0 a1 k, LeO (accountingref03_divisor.f k a0 a1) (accountingref03_divisor.f (k + 1) a0 a1) := by
 intro a0 a1 k; have ih0 := accountingref03_divisor.mono_l k
 unfold accountingref03_divisor.f
 repeat' first
   | (with_reducible exact ih0 _ _)
   | (with_reducible exact LeO.refl _)
   | (with_reducible exact LeO.none _)
   | (with_reducible refine LeO.ite ?_ ?_)
   | (with_reducible refine LeO.bind ?_ (fun _ => ?_))
   | exact ih0 _ _
   | exact LeO.none _
   | refine LeO.ite ?_ ?_
   | refine LeO.bind ?_ (fun _ => ?_)
set_option maxHeartbeats 8000000 in
set_option maxRecDepth 100000 in
theorem accountingref03_divisor.calls (k : Nat) (a0 : Int) (a1 : Int) (r : Int) (w : World) (h : accountingref03_divisor.f k a0 a1 = some r) :
    Calls Try.prog 66 #[.int .u64 a0, .int .u64 a1] w fun e w' => e = .returned (.int .u64 r) ∧ Drawn0 w w' := by
 have H : (accountingref03_divisor.l0 k a0 a1) = some r := h; clear h; have H' := Aside0.mk H; clear H; go_enter Try.func66, Try.ntmps66
 go_wp2
 repeat (go_quiet (fail); try go_wp2)
 go_loopg [0, 1] k (fun kq v0 v1 w' => ∃ (x0_1 : Int) (x1_1 : Int), v0 = .int .u64 x0_1 ∧ v1 = .int .u64 x1_1 ∧ Aside0 (accountingref03_divisor.l0 kq x0_1 x1_1 = some r) ∧ Aside0 (kq ≤ k) ∧ Drawn0 w w')
 case atStart => exact ⟨(a0), (a1), prr1_0, prr1_0, H', ⟨Nat.le_refl _⟩, prr1_1⟩
 case round =>
  clear H'; (try clear p2); obtain ⟨x0_1, x1_1, rfl, rfl, HA, HK1, ⟨m1, rfl⟩⟩ := hrel
  cases gk with
  | zero => exact absurd HA.out (by simp [accountingref03_divisor.l0])
  | succ k1 =>
   have H := HA.out; clear HA; simp only [accountingref03_divisor.l0] at H
   by_cases c3 : x1_1 = 0
   ·rw [if_pos c3] at H; have c3b0 : (x1_1 == 0) = true := beq_iff_eq.mpr c3; have c3b1 : (x1_1 != 0) = false := bne_eq_false_iff_eq.mpr c3; clear c3; obtain rfl := Option.some.inj H
    go_wp2
    repeat (go_quiet (fail); try go_wp2)
    go_ret
    exact ⟨prr1_0, prr1_1⟩
   ·rw [if_neg c3] at H; have c3b0 : (x1_1 == 0) = false := beq_eq_false_iff_ne.mpr c3; have c3b1 : (x1_1 != 0) = true := bne_iff_ne.mpr c3; have H' := Aside0.mk H; clear H
    go_wp2
    repeat (go_quiet (fail); try go_wp2)
    go_roundg k1
    case measure => have := HK1.out; omega
    case rel => exact ⟨(x1_1), (Int.tmod x0_1 x1_1), prr1_0, prr1_0, H', ⟨by have := HK1.out; omega⟩, prr1_1⟩
def accountingref03_size.f (a0 : Int) : Option (Int) := if a0 < 0 then (some (IntKind.u64.wrap (-(IntKind.u64.wrap (a0))))) else (some (IntKind.u64.wrap (a0)))
set_option maxHeartbeats 8000000 in
set_option maxRecDepth 100000 in
theorem accountingref03_size.calls (a0 : Int) (r : Int) (w : World) (h : accountingref03_size.f a0 = some r) :
    Calls Try.prog 67 #[.int .i64 a0] w fun e w' => e = .returned (.int .u64 r) ∧ Drawn0 w w' := by
 have H : (if a0 < 0 then (some (IntKind.u64.wrap (-(IntKind.u64.wrap (a0))))) else (some (IntKind.u64.wrap (a0)))) = some r := h; clear h
 by_cases c2 : a0 < 0
 ·rw [if_pos c2] at H; have c2b0 : decide (a0 < 0) = true := decide_eq_true c2; clear c2; obtain rfl := Option.some.inj H; go_enter Try.func67, Try.ntmps67
  go_wp2
  go_ret
  exact ⟨prr1_0, prr1_1⟩
 ·rw [if_neg c2] at H; have c2b0 : decide (a0 < 0) = false := decide_eq_false c2; clear c2; obtain rfl := Option.some.inj H; go_enter Try.func67, Try.ntmps67
  go_wp2
  go_ret
  exact ⟨prr1_0, prr1_1⟩
def accountingref03_Right.f (k : Nat) (a0_0 : Int) (a0_1 : Int) : Option (Bool) := if a0_1 ≥ 1 then (if a0_1 ≤ 1000000 then (if a0_0 ≥ (-1000000) then (if a0_0 ≤ 1000000 then ((accountingref03_size.f a0_0).bind fun t102 => ((accountingref03_size.f a0_1).bind fun t103 => ((accountingref03_divisor.f k t102 t103).bind fun t104 => (some (t104 == 1))))) else (some false)) else (some false)) else (some false)) else (some false)
theorem accountingref03_Right.mono : ∀ a0 a1 k, LeO (accountingref03_Right.f k a0 a1) (accountingref03_Right.f (k + 1) a0 a1) := by
 intro a0 a1 k
 unfold accountingref03_Right.f
 repeat' first
   | (with_reducible exact accountingref03_divisor.mono _ _ _)
   | (with_reducible exact LeO.refl _)
   | (with_reducible exact LeO.none _)
   | (with_reducible refine LeO.ite ?_ ?_)
   | (with_reducible refine LeO.bind ?_ (fun _ => ?_))
   | exact accountingref03_divisor.mono _ _ _
   | exact LeO.none _
   | refine LeO.ite ?_ ?_
   | refine LeO.bind ?_ (fun _ => ?_)
set_option maxHeartbeats 8000000 in
set_option maxRecDepth 100000 in
theorem accountingref03_Right.calls (k : Nat) (a0_0 : Int) (a0_1 : Int) (r : Bool) (w : World) (h : accountingref03_Right.f k a0_0 a0_1 = some r) :
    Calls Try.prog 55 #[.agg #[.int .i64 a0_0, .int .i64 a0_1]] w fun e w' => e = .returned (.bool r) ∧ Below w.heap.size w w' := by
 have hu23 := Try.underlying23; have hu3 := Try.underlying3; have HB := Aside0.mk (Below.refl w.heap.size w); have H : (if a0_1 ≥ 1 then (if a0_1 ≤ 1000000 then (if a0_0 ≥ (-1000000) then (if a0_0 ≤ 1000000 then ((accountingref03_size.f a0_0).bind fun t102 => ((accountingref03_size.f a0_1).bind fun t103 => ((accountingref03_divisor.f k t102 t103).bind fun t104 => (some (t104 == 1))))) else (some false)) else (some false)) else (some false)) else (some false)) = some r := h; clear h
 by_cases c2 : a0_1 ≥ 1
 ·rw [if_pos c2] at H; have c2b0 : decide (1 ≤ a0_1) = true := decide_eq_true c2; clear c2
  by_cases c3 : a0_1 ≤ 1000000
  ·rw [if_pos c3] at H; have c3b0 : decide (a0_1 ≤ 1000000) = true := decide_eq_true c3; clear c3
   by_cases c4 : a0_0 ≥ (-1000000)
   ·rw [if_pos c4] at H; have c4b0 : decide ((-1000000) ≤ a0_0) = true := decide_eq_true c4; clear c4
    by_cases c5 : a0_0 ≤ 1000000
    ·rw [if_pos c5] at H; have c5b0 : decide (a0_0 ≤ 1000000) = true := decide_eq_true c5; clear c5; replace H := Option.bind_eq_some_iff.mp H; obtain ⟨t102, A60, H⟩ := H; replace H : ((accountingref03_size.f a0_1).bind fun t103 => ((accountingref03_divisor.f k t102 t103).bind fun t104 => (some (t104 == 1)))) = some r := H; have A6 := Aside0.mk A60; clear A60; replace H := Option.bind_eq_some_iff.mp H; obtain ⟨t103, A70, H⟩ := H; replace H : ((accountingref03_divisor.f k t102 t103).bind fun t104 => (some (t104 == 1))) = some r := H; have A7 := Aside0.mk A70; clear A70; replace H := Option.bind_eq_some_iff.mp H; obtain ⟨t104, A80, H⟩ := H; replace H : (some (t104 == 1)) = some r := H; have A8 := Aside0.mk A80; clear A80; obtain rfl := Option.some.inj H; go_enter Try.func55, Try.ntmps55
     go_wp2_with (first | ((with_reducible refine gate_dst (N := 1) rfl ?_); refine box_event ?hg (N := 1) ?hd (cs := #[.int .i64 a0_0, .int .i64 a0_1]) (t := 23) ?hr ?_; (case hd => rfl); (case hg => rfl); (case hr => first | (go_simp; done) | (go_simp; rfl)); intro gb101 hg w9 hbox hb; have n0_ := Aside0.mk (below_step prr1_4 hb); have n1_ := Aside0.mk (hbox); have n2_ := Aside0.mk ((prr1_5 : w.heap.size ≤ gb101)); have n3_ := Aside0.mk ((prr1_5 : w.heap.size ≤ gb101)); clear HB; have HB := n0_; have BK101 := n1_; have GW101 := n2_; have GE101 := n3_; clear n0_ n1_ n2_ n3_; clear hb hbox hg; have hcz10_0 : w9.cell? ⟨gb101, 0, none⟩ = some (.int .i64 a0_0) := (blk_cell BK101.out 0).trans rfl; have hcz10_1 : w9.cell? ⟨gb101, 1, none⟩ = some (.int .i64 a0_1) := (blk_cell BK101.out 1).trans rfl; have hfz10_0 := blk_frozen BK101.out 0; have hfz10_1 := blk_frozen BK101.out 1) | (go_at_call 67; (with_reducible refine (accountingref03_size.calls a0_0 t102 _ A6.out).mono ?_); rintro e w' ⟨rfl, ⟨nd, rfl⟩⟩; (try first | exact ⟨rfl, _, World.drewN_drewN _ _ _⟩ | exact ⟨rfl, _, Eq.trans (World.drewN_drewN _ _ _) (congrArg (World.drewN _) (Nat.add_assoc _ _ _))⟩)) | (go_at_call 67; (with_reducible refine (accountingref03_size.calls a0_1 t103 _ A7.out).mono ?_); rintro e w' ⟨rfl, ⟨nd, rfl⟩⟩; (try first | exact ⟨rfl, _, World.drewN_drewN _ _ _⟩ | exact ⟨rfl, _, Eq.trans (World.drewN_drewN _ _ _) (congrArg (World.drewN _) (Nat.add_assoc _ _ _))⟩)) | (go_at_call 66; (with_reducible refine (accountingref03_divisor.calls k t102 t103 t104 _ A8.out).mono ?_); rintro e w' ⟨rfl, ⟨nd, rfl⟩⟩; (try first | exact ⟨rfl, _, World.drewN_drewN _ _ _⟩ | exact ⟨rfl, _, Eq.trans (World.drewN_drewN _ _ _) (congrArg (World.drewN _) (Nat.add_assoc _ _ _))⟩)))
     repeat (go_quiet (first | ((with_reducible refine gate_dst (N := 1) rfl ?_); refine box_event ?hg (N := 1) ?hd (cs := #[.int .i64 a0_0, .int .i64 a0_1]) (t := 23) ?hr ?_; (case hd => rfl); (case hg => rfl); (case hr => first | (go_simp; done) | (go_simp; rfl)); intro gb101 hg w9 hbox hb; have n0_ := Aside0.mk (below_step prr1_4 hb); have n1_ := Aside0.mk (hbox); have n2_ := Aside0.mk ((prr1_5 : w.heap.size ≤ gb101)); have n3_ := Aside0.mk ((prr1_5 : w.heap.size ≤ gb101)); clear HB; have HB := n0_; have BK101 := n1_; have GW101 := n2_; have GE101 := n3_; clear n0_ n1_ n2_ n3_; clear hb hbox hg; have hcz10_0 : w9.cell? ⟨gb101, 0, none⟩ = some (.int .i64 a0_0) := (blk_cell BK101.out 0).trans rfl; have hcz10_1 : w9.cell? ⟨gb101, 1, none⟩ = some (.int .i64 a0_1) := (blk_cell BK101.out 1).trans rfl; have hfz10_0 := blk_frozen BK101.out 0; have hfz10_1 := blk_frozen BK101.out 1) | (go_at_call 67; (with_reducible refine (accountingref03_size.calls a0_0 t102 _ A6.out).mono ?_); rintro e w' ⟨rfl, ⟨nd, rfl⟩⟩; (try first | exact ⟨rfl, _, World.drewN_drewN _ _ _⟩ | exact ⟨rfl, _, Eq.trans (World.drewN_drewN _ _ _) (congrArg (World.drewN _) (Nat.add_assoc _ _ _))⟩)) | (go_at_call 67; (with_reducible refine (accountingref03_size.calls a0_1 t103 _ A7.out).mono ?_); rintro e w' ⟨rfl, ⟨nd, rfl⟩⟩; (try first | exact ⟨rfl, _, World.drewN_drewN _ _ _⟩ | exact ⟨rfl, _, Eq.trans (World.drewN_drewN _ _ _) (congrArg (World.drewN _) (Nat.add_assoc _ _ _))⟩)) | (go_at_call 66; (with_reducible refine (accountingref03_divisor.calls k t102 t103 t104 _ A8.out).mono ?_); rintro e w' ⟨rfl, ⟨nd, rfl⟩⟩; (try first | exact ⟨rfl, _, World.drewN_drewN _ _ _⟩ | exact ⟨rfl, _, Eq.trans (World.drewN_drewN _ _ _) (congrArg (World.drewN _) (Nat.add_assoc _ _ _))⟩))); try go_wp2_with (first | ((with_reducible refine gate_dst (N := 1) rfl ?_); refine box_event ?hg (N := 1) ?hd (cs := #[.int .i64 a0_0, .int .i64 a0_1]) (t := 23) ?hr ?_; (case hd => rfl); (case hg => rfl); (case hr => first | (go_simp; done) | (go_simp; rfl)); intro gb101 hg w9 hbox hb; have n0_ := Aside0.mk (below_step prr1_4 hb); have n1_ := Aside0.mk (hbox); have n2_ := Aside0.mk ((prr1_5 : w.heap.size ≤ gb101)); have n3_ := Aside0.mk ((prr1_5 : w.heap.size ≤ gb101)); clear HB; have HB := n0_; have BK101 := n1_; have GW101 := n2_; have GE101 := n3_; clear n0_ n1_ n2_ n3_; clear hb hbox hg; have hcz10_0 : w9.cell? ⟨gb101, 0, none⟩ = some (.int .i64 a0_0) := (blk_cell BK101.out 0).trans rfl; have hcz10_1 : w9.cell? ⟨gb101, 1, none⟩ = some (.int .i64 a0_1) := (blk_cell BK101.out 1).trans rfl; have hfz10_0 := blk_frozen BK101.out 0; have hfz10_1 := blk_frozen BK101.out 1) | (go_at_call 67; (with_reducible refine (accountingref03_size.calls a0_0 t102 _ A6.out).mono ?_); rintro e w' ⟨rfl, ⟨nd, rfl⟩⟩; (try first | exact ⟨rfl, _, World.drewN_drewN _ _ _⟩ | exact ⟨rfl, _, Eq.trans (World.drewN_drewN _ _ _) (congrArg (World.drewN _) (Nat.add_assoc _ _ _))⟩)) | (go_at_call 67; (with_reducible refine (accountingref03_size.calls a0_1 t103 _ A7.out).mono ?_); rintro e w' ⟨rfl, ⟨nd, rfl⟩⟩; (try first | exact ⟨rfl, _, World.drewN_drewN _ _ _⟩ | exact ⟨rfl, _, Eq.trans (World.drewN_drewN _ _ _) (congrArg (World.drewN _) (Nat.add_assoc _ _ _))⟩)) | (go_at_call 66; (with_reducible refine (accountingref03_divisor.calls k t102 t103 t104 _ A8.out).mono ?_); rintro e w' ⟨rfl, ⟨nd, rfl⟩⟩; (try first | exact ⟨rfl, _, World.drewN_drewN _ _ _⟩ | exact ⟨rfl, _, Eq.trans (World.drewN_drewN _ _ _) (congrArg (World.drewN _) (Nat.add_assoc _ _ _))⟩))))
     go_ret
     exact ⟨prr1_6, prr1_7⟩
    ·rw [if_neg c5] at H; have c5b0 : decide (a0_0 ≤ 1000000) = false := decide_eq_false c5; clear c5; obtain rfl := Option.some.inj H; go_enter Try.func55, Try.ntmps55
     go_wp2_with (first | ((with_reducible refine gate_dst (N := 1) rfl ?_); refine box_event ?hg (N := 1) ?hd (cs := #[.int .i64 a0_0, .int .i64 a0_1]) (t := 23) ?hr ?_; (case hd => rfl); (case hg => rfl); (case hr => first | (go_simp; done) | (go_simp; rfl)); intro gb101 hg w11 hbox hb; have n0_ := Aside0.mk (below_step prr1_4 hb); have n1_ := Aside0.mk (hbox); have n2_ := Aside0.mk ((prr1_5 : w.heap.size ≤ gb101)); have n3_ := Aside0.mk ((prr1_5 : w.heap.size ≤ gb101)); clear HB; have HB := n0_; have BK101 := n1_; have GW101 := n2_; have GE101 := n3_; clear n0_ n1_ n2_ n3_; clear hb hbox hg; have hcz12_0 : w11.cell? ⟨gb101, 0, none⟩ = some (.int .i64 a0_0) := (blk_cell BK101.out 0).trans rfl; have hcz12_1 : w11.cell? ⟨gb101, 1, none⟩ = some (.int .i64 a0_1) := (blk_cell BK101.out 1).trans rfl; have hfz12_0 := blk_frozen BK101.out 0; have hfz12_1 := blk_frozen BK101.out 1))
     repeat (go_quiet (first | ((with_reducible refine gate_dst (N := 1) rfl ?_); refine box_event ?hg (N := 1) ?hd (cs := #[.int .i64 a0_0, .int .i64 a0_1]) (t := 23) ?hr ?_; (case hd => rfl); (case hg => rfl); (case hr => first | (go_simp; done) | (go_simp; rfl)); intro gb101 hg w11 hbox hb; have n0_ := Aside0.mk (below_step prr1_4 hb); have n1_ := Aside0.mk (hbox); have n2_ := Aside0.mk ((prr1_5 : w.heap.size ≤ gb101)); have n3_ := Aside0.mk ((prr1_5 : w.heap.size ≤ gb101)); clear HB; have HB := n0_; have BK101 := n1_; have GW101 := n2_; have GE101 := n3_; clear n0_ n1_ n2_ n3_; clear hb hbox hg; have hcz12_0 : w11.cell? ⟨gb101, 0, none⟩ = some (.int .i64 a0_0) := (blk_cell BK101.out 0).trans rfl; have hcz12_1 : w11.cell? ⟨gb101, 1, none⟩ = some (.int .i64 a0_1) := (blk_cell BK101.out 1).trans rfl; have hfz12_0 := blk_frozen BK101.out 0; have hfz12_1 := blk_frozen BK101.out 1)); try go_wp2_with (first | ((with_reducible refine gate_dst (N := 1) rfl ?_); refine box_event ?hg (N := 1) ?hd (cs := #[.int .i64 a0_0, .int .i64 a0_1]) (t := 23) ?hr ?_; (case hd => rfl); (case hg => rfl); (case hr => first | (go_simp; done) | (go_simp; rfl)); intro gb101 hg w11 hbox hb; have n0_ := Aside0.mk (below_step prr1_4 hb); have n1_ := Aside0.mk (hbox); have n2_ := Aside0.mk ((prr1_5 : w.heap.size ≤ gb101)); have n3_ := Aside0.mk ((prr1_5 : w.heap.size ≤ gb101)); clear HB; have HB := n0_; have BK101 := n1_; have GW101 := n2_; have GE101 := n3_; clear n0_ n1_ n2_ n3_; clear hb hbox hg; have hcz12_0 : w11.cell? ⟨gb101, 0, none⟩ = some (.int .i64 a0_0) := (blk_cell BK101.out 0).trans rfl; have hcz12_1 : w11.cell? ⟨gb101, 1, none⟩ = some (.int .i64 a0_1) := (blk_cell BK101.out 1).trans rfl; have hfz12_0 := blk_frozen BK101.out 0; have hfz12_1 := blk_frozen BK101.out 1)))
     go_ret
     exact ⟨prr1_6, prr1_7⟩
   ·rw [if_neg c4] at H; have c4b0 : decide ((-1000000) ≤ a0_0) = false := decide_eq_false c4; clear c4; obtain rfl := Option.some.inj H; go_enter Try.func55, Try.ntmps55
    go_wp2_with (first | ((with_reducible refine gate_dst (N := 1) rfl ?_); refine box_event ?hg (N := 1) ?hd (cs := #[.int .i64 a0_0, .int .i64 a0_1]) (t := 23) ?hr ?_; (case hd => rfl); (case hg => rfl); (case hr => first | (go_simp; done) | (go_simp; rfl)); intro gb101 hg w13 hbox hb; have n0_ := Aside0.mk (below_step prr1_4 hb); have n1_ := Aside0.mk (hbox); have n2_ := Aside0.mk ((prr1_5 : w.heap.size ≤ gb101)); have n3_ := Aside0.mk ((prr1_5 : w.heap.size ≤ gb101)); clear HB; have HB := n0_; have BK101 := n1_; have GW101 := n2_; have GE101 := n3_; clear n0_ n1_ n2_ n3_; clear hb hbox hg; have hcz14_0 : w13.cell? ⟨gb101, 0, none⟩ = some (.int .i64 a0_0) := (blk_cell BK101.out 0).trans rfl; have hcz14_1 : w13.cell? ⟨gb101, 1, none⟩ = some (.int .i64 a0_1) := (blk_cell BK101.out 1).trans rfl; have hfz14_0 := blk_frozen BK101.out 0; have hfz14_1 := blk_frozen BK101.out 1))
    repeat (go_quiet (first | ((with_reducible refine gate_dst (N := 1) rfl ?_); refine box_event ?hg (N := 1) ?hd (cs := #[.int .i64 a0_0, .int .i64 a0_1]) (t := 23) ?hr ?_; (case hd => rfl); (case hg => rfl); (case hr => first | (go_simp; done) | (go_simp; rfl)); intro gb101 hg w13 hbox hb; have n0_ := Aside0.mk (below_step prr1_4 hb); have n1_ := Aside0.mk (hbox); have n2_ := Aside0.mk ((prr1_5 : w.heap.size ≤ gb101)); have n3_ := Aside0.mk ((prr1_5 : w.heap.size ≤ gb101)); clear HB; have HB := n0_; have BK101 := n1_; have GW101 := n2_; have GE101 := n3_; clear n0_ n1_ n2_ n3_; clear hb hbox hg; have hcz14_0 : w13.cell? ⟨gb101, 0, none⟩ = some (.int .i64 a0_0) := (blk_cell BK101.out 0).trans rfl; have hcz14_1 : w13.cell? ⟨gb101, 1, none⟩ = some (.int .i64 a0_1) := (blk_cell BK101.out 1).trans rfl; have hfz14_0 := blk_frozen BK101.out 0; have hfz14_1 := blk_frozen BK101.out 1)); try go_wp2_with (first | ((with_reducible refine gate_dst (N := 1) rfl ?_); refine box_event ?hg (N := 1) ?hd (cs := #[.int .i64 a0_0, .int .i64 a0_1]) (t := 23) ?hr ?_; (case hd => rfl); (case hg => rfl); (case hr => first | (go_simp; done) | (go_simp; rfl)); intro gb101 hg w13 hbox hb; have n0_ := Aside0.mk (below_step prr1_4 hb); have n1_ := Aside0.mk (hbox); have n2_ := Aside0.mk ((prr1_5 : w.heap.size ≤ gb101)); have n3_ := Aside0.mk ((prr1_5 : w.heap.size ≤ gb101)); clear HB; have HB := n0_; have BK101 := n1_; have GW101 := n2_; have GE101 := n3_; clear n0_ n1_ n2_ n3_; clear hb hbox hg; have hcz14_0 : w13.cell? ⟨gb101, 0, none⟩ = some (.int .i64 a0_0) := (blk_cell BK101.out 0).trans rfl; have hcz14_1 : w13.cell? ⟨gb101, 1, none⟩ = some (.int .i64 a0_1) := (blk_cell BK101.out 1).trans rfl; have hfz14_0 := blk_frozen BK101.out 0; have hfz14_1 := blk_frozen BK101.out 1)))
    go_ret
    exact ⟨prr1_6, prr1_7⟩
  ·rw [if_neg c3] at H; have c3b0 : decide (a0_1 ≤ 1000000) = false := decide_eq_false c3; clear c3; obtain rfl := Option.some.inj H; go_enter Try.func55, Try.ntmps55
   go_wp2_with (first | ((with_reducible refine gate_dst (N := 1) rfl ?_); refine box_event ?hg (N := 1) ?hd (cs := #[.int .i64 a0_0, .int .i64 a0_1]) (t := 23) ?hr ?_; (case hd => rfl); (case hg => rfl); (case hr => first | (go_simp; done) | (go_simp; rfl)); intro gb101 hg w15 hbox hb; have n0_ := Aside0.mk (below_step prr1_4 hb); have n1_ := Aside0.mk (hbox); have n2_ := Aside0.mk ((prr1_5 : w.heap.size ≤ gb101)); have n3_ := Aside0.mk ((prr1_5 : w.heap.size ≤ gb101)); clear HB; have HB := n0_; have BK101 := n1_; have GW101 := n2_; have GE101 := n3_; clear n0_ n1_ n2_ n3_; clear hb hbox hg; have hcz16_0 : w15.cell? ⟨gb101, 0, none⟩ = some (.int .i64 a0_0) := (blk_cell BK101.out 0).trans rfl; have hcz16_1 : w15.cell? ⟨gb101, 1, none⟩ = some (.int .i64 a0_1) := (blk_cell BK101.out 1).trans rfl; have hfz16_0 := blk_frozen BK101.out 0; have hfz16_1 := blk_frozen BK101.out 1))
   repeat (go_quiet (first | ((with_reducible refine gate_dst (N := 1) rfl ?_); refine box_event ?hg (N := 1) ?hd (cs := #[.int .i64 a0_0, .int .i64 a0_1]) (t := 23) ?hr ?_; (case hd => rfl); (case hg => rfl); (case hr => first | (go_simp; done) | (go_simp; rfl)); intro gb101 hg w15 hbox hb; have n0_ := Aside0.mk (below_step prr1_4 hb); have n1_ := Aside0.mk (hbox); have n2_ := Aside0.mk ((prr1_5 : w.heap.size ≤ gb101)); have n3_ := Aside0.mk ((prr1_5 : w.heap.size ≤ gb101)); clear HB; have HB := n0_; have BK101 := n1_; have GW101 := n2_; have GE101 := n3_; clear n0_ n1_ n2_ n3_; clear hb hbox hg; have hcz16_0 : w15.cell? ⟨gb101, 0, none⟩ = some (.int .i64 a0_0) := (blk_cell BK101.out 0).trans rfl; have hcz16_1 : w15.cell? ⟨gb101, 1, none⟩ = some (.int .i64 a0_1) := (blk_cell BK101.out 1).trans rfl; have hfz16_0 := blk_frozen BK101.out 0; have hfz16_1 := blk_frozen BK101.out 1)); try go_wp2_with (first | ((with_reducible refine gate_dst (N := 1) rfl ?_); refine box_event ?hg (N := 1) ?hd (cs := #[.int .i64 a0_0, .int .i64 a0_1]) (t := 23) ?hr ?_; (case hd => rfl); (case hg => rfl); (case hr => first | (go_simp; done) | (go_simp; rfl)); intro gb101 hg w15 hbox hb; have n0_ := Aside0.mk (below_step prr1_4 hb); have n1_ := Aside0.mk (hbox); have n2_ := Aside0.mk ((prr1_5 : w.heap.size ≤ gb101)); have n3_ := Aside0.mk ((prr1_5 : w.heap.size ≤ gb101)); clear HB; have HB := n0_; have BK101 := n1_; have GW101 := n2_; have GE101 := n3_; clear n0_ n1_ n2_ n3_; clear hb hbox hg; have hcz16_0 : w15.cell? ⟨gb101, 0, none⟩ = some (.int .i64 a0_0) := (blk_cell BK101.out 0).trans rfl; have hcz16_1 : w15.cell? ⟨gb101, 1, none⟩ = some (.int .i64 a0_1) := (blk_cell BK101.out 1).trans rfl; have hfz16_0 := blk_frozen BK101.out 0; have hfz16_1 := blk_frozen BK101.out 1)))
   go_ret
   exact ⟨prr1_6, prr1_7⟩
 ·rw [if_neg c2] at H; have c2b0 : decide (1 ≤ a0_1) = false := decide_eq_false c2; clear c2; obtain rfl := Option.some.inj H; go_enter Try.func55, Try.ntmps55
  go_wp2_with (first | ((with_reducible refine gate_dst (N := 1) rfl ?_); refine box_event ?hg (N := 1) ?hd (cs := #[.int .i64 a0_0, .int .i64 a0_1]) (t := 23) ?hr ?_; (case hd => rfl); (case hg => rfl); (case hr => first | (go_simp; done) | (go_simp; rfl)); intro gb101 hg w17 hbox hb; have n0_ := Aside0.mk (below_step prr1_4 hb); have n1_ := Aside0.mk (hbox); have n2_ := Aside0.mk ((prr1_5 : w.heap.size ≤ gb101)); have n3_ := Aside0.mk ((prr1_5 : w.heap.size ≤ gb101)); clear HB; have HB := n0_; have BK101 := n1_; have GW101 := n2_; have GE101 := n3_; clear n0_ n1_ n2_ n3_; clear hb hbox hg; have hcz18_0 : w17.cell? ⟨gb101, 0, none⟩ = some (.int .i64 a0_0) := (blk_cell BK101.out 0).trans rfl; have hcz18_1 : w17.cell? ⟨gb101, 1, none⟩ = some (.int .i64 a0_1) := (blk_cell BK101.out 1).trans rfl; have hfz18_0 := blk_frozen BK101.out 0; have hfz18_1 := blk_frozen BK101.out 1))
  repeat (go_quiet (first | ((with_reducible refine gate_dst (N := 1) rfl ?_); refine box_event ?hg (N := 1) ?hd (cs := #[.int .i64 a0_0, .int .i64 a0_1]) (t := 23) ?hr ?_; (case hd => rfl); (case hg => rfl); (case hr => first | (go_simp; done) | (go_simp; rfl)); intro gb101 hg w17 hbox hb; have n0_ := Aside0.mk (below_step prr1_4 hb); have n1_ := Aside0.mk (hbox); have n2_ := Aside0.mk ((prr1_5 : w.heap.size ≤ gb101)); have n3_ := Aside0.mk ((prr1_5 : w.heap.size ≤ gb101)); clear HB; have HB := n0_; have BK101 := n1_; have GW101 := n2_; have GE101 := n3_; clear n0_ n1_ n2_ n3_; clear hb hbox hg; have hcz18_0 : w17.cell? ⟨gb101, 0, none⟩ = some (.int .i64 a0_0) := (blk_cell BK101.out 0).trans rfl; have hcz18_1 : w17.cell? ⟨gb101, 1, none⟩ = some (.int .i64 a0_1) := (blk_cell BK101.out 1).trans rfl; have hfz18_0 := blk_frozen BK101.out 0; have hfz18_1 := blk_frozen BK101.out 1)); try go_wp2_with (first | ((with_reducible refine gate_dst (N := 1) rfl ?_); refine box_event ?hg (N := 1) ?hd (cs := #[.int .i64 a0_0, .int .i64 a0_1]) (t := 23) ?hr ?_; (case hd => rfl); (case hg => rfl); (case hr => first | (go_simp; done) | (go_simp; rfl)); intro gb101 hg w17 hbox hb; have n0_ := Aside0.mk (below_step prr1_4 hb); have n1_ := Aside0.mk (hbox); have n2_ := Aside0.mk ((prr1_5 : w.heap.size ≤ gb101)); have n3_ := Aside0.mk ((prr1_5 : w.heap.size ≤ gb101)); clear HB; have HB := n0_; have BK101 := n1_; have GW101 := n2_; have GE101 := n3_; clear n0_ n1_ n2_ n3_; clear hb hbox hg; have hcz18_0 : w17.cell? ⟨gb101, 0, none⟩ = some (.int .i64 a0_0) := (blk_cell BK101.out 0).trans rfl; have hcz18_1 : w17.cell? ⟨gb101, 1, none⟩ = some (.int .i64 a0_1) := (blk_cell BK101.out 1).trans rfl; have hfz18_0 := blk_frozen BK101.out 0; have hfz18_1 := blk_frozen BK101.out 1)))
  go_ret
  exact ⟨prr1_6, prr1_7⟩
end Go.Proofs.Ytgjpegmhlnabpaa.M
end
section
namespace Go.Proofs.Ytgjpegmhlnabpaa.M
open Go.RowKit Go.Proofs.YtgjpegmhlnabpaaW.PrintWords Dv
set_option linter.unusedVariables false
set_option linter.unusedSimpArgs false
theorem accountingref03_divisor.go : ∀ (n : Nat) (a b : Int), b.toNat ≤ n → 0 ≤ a → 0 ≤ b → Ev (fun k => accountingref03_divisor.l0 k a b) ((Nat.gcd a.toNat b.toNat : Nat) : Int)
  | 0, a, b, hn, ha, hb => by
    obtain rfl : b = 0 := by omega
    refine Ev.succ ?_; simp only [accountingref03_divisor.l0, if_true]; have e : ((Nat.gcd a.toNat (0 : Int).toNat : Nat) : Int) = a := by simp; omega
    rw [e]; exact Ev.const _
  | n + 1, a, b, hn, ha, hb => by
    refine Ev.succ ?_
    by_cases h : b = 0
    · subst h; simp only [accountingref03_divisor.l0, if_true]; have e : ((Nat.gcd a.toNat (0 : Int).toNat : Nat) : Int) = a := by simp; omega
      rw [e]; exact Ev.const _
    · simp only [accountingref03_divisor.l0, if_neg h]; have e : Int.tmod a b = a % b := Int.tmod_eq_emod_of_nonneg ha; have h1 : 0 ≤ a % b := Int.emod_nonneg a h; have h2 : a % b < b := Int.emod_lt_of_pos a (by omega); rw [e]; have ih := accountingref03_divisor.go n b (a % b) (by omega) hb h1
      have g : Nat.gcd b.toNat (a % b).toNat = Nat.gcd a.toNat b.toNat := by
        rw [Int.toNat_emod ha hb, Nat.gcd_comm a.toNat, Nat.gcd_rec b.toNat a.toNat, Nat.gcd_comm]
      rw [g] at ih; exact ih
theorem accountingref03_size.eq {a : Int} (h : inI a) : accountingref03_size.f a = some (ab a) := by
  unfold inI at h
  unfold accountingref03_size.f ab
  simp only [wrap_u64]
  split
  · congr 1; omega
  · congr 1; omega
theorem accountingref03_Right.eq {n d : Int} (hn : inI n) (hd : inI d) : Ev (fun k => accountingref03_Right.f k n d) (rightv n d) := by
  have hb := ab_bound hn
  unfold accountingref03_Right.f
  by_cases c1 : d ≥ 1
  · by_cases c2 : d ≤ 1000000
    · by_cases c3 : n ≥ -1000000
      · by_cases c4 : n ≤ 1000000
        · simp only [if_pos c1, if_pos c2, if_pos c3, if_pos c4, accountingref03_size.eq hn, accountingref03_size.eq hd, Option.bind_some]; rw [rightv_yes ⟨c1, c2, c3, c4⟩]; have e : ab d = d := by unfold ab; rw [if_neg (by omega)]
          rw [e]; exact Ev.bind (g := fun k => accountingref03_divisor.f k (ab n) d) (h := fun k t => some (t == 1)) (accountingref03_divisor.go _ _ _ (Nat.le_refl _) hb.1 (by omega)) (Ev.const _)
        · simp only [if_pos c1, if_pos c2, if_pos c3, if_neg c4]; rw [rightv_no (by omega)]; exact Ev.const _
      · simp only [if_pos c1, if_pos c2, if_neg c3]; rw [rightv_no (by omega)]; exact Ev.const _
    · simp only [if_pos c1, if_neg c2]; rw [rightv_no (by omega)]; exact Ev.const _
  · simp only [if_neg c1]; rw [rightv_no (by omega)]; exact Ev.const _
end Go.Proofs.Ytgjpegmhlnabpaa.M
end
section
namespace Go.Proofs.Ytgjpegmhlnabpaa.M
open Go.RowKit Go.Proofs.YtgjpegmhlnabpaaW.PrintWords Go.Proofs.YtgjpegmhlnabpaaW.PrintLast Go.Proofs.YtgjpegmhlnabpaaW.PrintMore
attribute [local go_sem] max2_int min2_int max_two min_two max_three min_three max_four min_four
set_option linter.unusedVariables false
set_option linter.unusedSimpArgs false
def accountingref25_Rate.f (k : Nat) (a0_0 : Int) (a0_1 : Int) : Option (Bool) := (accountingref03_Right.f k a0_0 a0_1).bind fun t102 => (if t102 = true then (if a0_0 ≥ 0 then (some (decide (a0_0 ≤ a0_1))) else (some false)) else (some false))
theorem accountingref25_Rate.mono : ∀ a0 a1 k, LeO (accountingref25_Rate.f k a0 a1) (accountingref25_Rate.f (k + 1) a0 a1) := by
 intro a0 a1 k
 unfold accountingref25_Rate.f
 repeat' first
   | (with_reducible exact accountingref03_Right.mono _ _ _)
   | (with_reducible exact LeO.refl _)
   | (with_reducible exact LeO.none _)
   | (with_reducible refine LeO.ite ?_ ?_)
   | (with_reducible refine LeO.bind ?_ (fun _ => ?_))
   | exact accountingref03_Right.mono _ _ _
   | exact LeO.none _
   | refine LeO.ite ?_ ?_
   | refine LeO.bind ?_ (fun _ => ?_)
set_option maxHeartbeats 8000000 in
set_option maxRecDepth 100000 in
theorem accountingref25_Rate.calls (k : Nat) (a0_0 : Int) (a0_1 : Int) (r : Bool) (w : World) (h : accountingref25_Rate.f k a0_0 a0_1 = some r) :
    Calls Try.prog 30 #[.agg #[.int .i64 a0_0, .int .i64 a0_1]] w fun e w' => e = .returned (.bool r) ∧ Below w.heap.size w w' := by
 have hu23 := Try.underlying23; have hu3 := Try.underlying3; have HB := Aside0.mk (Below.refl w.heap.size w); have H : ((accountingref03_Right.f k a0_0 a0_1).bind fun t102 => (if t102 = true then (if a0_0 ≥ 0 then (some (decide (a0_0 ≤ a0_1))) else (some false)) else (some false))) = some r := h; clear h; replace H := Option.bind_eq_some_iff.mp H; obtain ⟨t102, A20, H⟩ := H; replace H : (if t102 = true then (if a0_0 ≥ 0 then (some (decide (a0_0 ≤ a0_1))) else (some false)) else (some false)) = some r := H; have A2 := Aside0.mk A20; clear A20
 by_cases c3 : t102 = true
 ·subst c3; have H1 : (if a0_0 ≥ 0 then (some (decide (a0_0 ≤ a0_1))) else (some false)) = some r := by rw [if_pos rfl] at H; exact H
  clear H; have H := H1; clear H1
  by_cases c4 : a0_0 ≥ 0
  ·rw [if_pos c4] at H; have c4b0 : decide (0 ≤ a0_0) = true := decide_eq_true c4; clear c4; obtain rfl := Option.some.inj H; go_enter Try.func30, Try.ntmps30
   go_wp2_with (first | ((with_reducible refine gate_dst (N := 1) rfl ?_); refine box_event ?hg (N := 1) ?hd (cs := #[.int .i64 a0_0, .int .i64 a0_1]) (t := 23) ?hr ?_; (case hd => rfl); (case hg => rfl); (case hr => first | (go_simp; done) | (go_simp; rfl)); intro gb101 hg w5 hbox hb; have n0_ := Aside0.mk (below_step prr1_4 hb); have n1_ := Aside0.mk (hbox); have n2_ := Aside0.mk ((prr1_5 : w.heap.size ≤ gb101)); have n3_ := Aside0.mk ((prr1_5 : w.heap.size ≤ gb101)); clear HB; have HB := n0_; have BK101 := n1_; have GW101 := n2_; have GE101 := n3_; clear n0_ n1_ n2_ n3_; clear hb hbox hg; have hcz6_0 : w5.cell? ⟨gb101, 0, none⟩ = some (.int .i64 a0_0) := (blk_cell BK101.out 0).trans rfl; have hcz6_1 : w5.cell? ⟨gb101, 1, none⟩ = some (.int .i64 a0_1) := (blk_cell BK101.out 1).trans rfl; have hfz6_0 := blk_frozen BK101.out 0; have hfz6_1 := blk_frozen BK101.out 1) | ((with_reducible refine gate_callee (f := 55) rfl ?_); refine goesL_ (some 4) rfl rfl Try.func55 (by kernel_rfl) rfl #[.agg #[.int .i64 a0_0, .int .i64 a0_1]] rfl prr1_2 ?_; (with_reducible refine (accountingref03_Right.calls k a0_0 a0_1 true _ A2.out).mono ?_); rintro e w7 ⟨rfl, hb⟩; refine ⟨_, rfl, ?_⟩; have n0_ := Aside0.mk (blk_below (g := gb101) (o := .cells #[.int .i64 a0_0, .int .i64 a0_1] 23 (0, 0)) prr1_8 hb); have n1_ := Aside0.mk (below_step prr1_7 hb); clear BK101; clear HB; have BK101 := n0_; have HB := n1_; clear n0_ n1_; (try clear hb); (try clear hb2); (try clear hk); (try clear hi); have hcz8_0 : w7.cell? ⟨gb101, 0, none⟩ = some (.int .i64 a0_0) := (blk_cell BK101.out 0).trans rfl; have hcz8_1 : w7.cell? ⟨gb101, 1, none⟩ = some (.int .i64 a0_1) := (blk_cell BK101.out 1).trans rfl; have hfz8_0 := blk_frozen BK101.out 0; have hfz8_1 := blk_frozen BK101.out 1))
   go_ret
   exact ⟨prr1_6, prr1_7⟩
  ·rw [if_neg c4] at H; have c4b0 : decide (0 ≤ a0_0) = false := decide_eq_false c4; clear c4; obtain rfl := Option.some.inj H; go_enter Try.func30, Try.ntmps30
   go_wp2_with (first | ((with_reducible refine gate_dst (N := 1) rfl ?_); refine box_event ?hg (N := 1) ?hd (cs := #[.int .i64 a0_0, .int .i64 a0_1]) (t := 23) ?hr ?_; (case hd => rfl); (case hg => rfl); (case hr => first | (go_simp; done) | (go_simp; rfl)); intro gb101 hg w9 hbox hb; have n0_ := Aside0.mk (below_step prr1_4 hb); have n1_ := Aside0.mk (hbox); have n2_ := Aside0.mk ((prr1_5 : w.heap.size ≤ gb101)); have n3_ := Aside0.mk ((prr1_5 : w.heap.size ≤ gb101)); clear HB; have HB := n0_; have BK101 := n1_; have GW101 := n2_; have GE101 := n3_; clear n0_ n1_ n2_ n3_; clear hb hbox hg; have hcz10_0 : w9.cell? ⟨gb101, 0, none⟩ = some (.int .i64 a0_0) := (blk_cell BK101.out 0).trans rfl; have hcz10_1 : w9.cell? ⟨gb101, 1, none⟩ = some (.int .i64 a0_1) := (blk_cell BK101.out 1).trans rfl; have hfz10_0 := blk_frozen BK101.out 0; have hfz10_1 := blk_frozen BK101.out 1) | ((with_reducible refine gate_callee (f := 55) rfl ?_); refine goesL_ (some 4) rfl rfl Try.func55 (by kernel_rfl) rfl #[.agg #[.int .i64 a0_0, .int .i64 a0_1]] rfl prr1_2 ?_; (with_reducible refine (accountingref03_Right.calls k a0_0 a0_1 true _ A2.out).mono ?_); rintro e w11 ⟨rfl, hb⟩; refine ⟨_, rfl, ?_⟩; have n0_ := Aside0.mk (blk_below (g := gb101) (o := .cells #[.int .i64 a0_0, .int .i64 a0_1] 23 (0, 0)) prr1_8 hb); have n1_ := Aside0.mk (below_step prr1_7 hb); clear BK101; clear HB; have BK101 := n0_; have HB := n1_; clear n0_ n1_; (try clear hb); (try clear hb2); (try clear hk); (try clear hi); have hcz12_0 : w11.cell? ⟨gb101, 0, none⟩ = some (.int .i64 a0_0) := (blk_cell BK101.out 0).trans rfl; have hcz12_1 : w11.cell? ⟨gb101, 1, none⟩ = some (.int .i64 a0_1) := (blk_cell BK101.out 1).trans rfl; have hfz12_0 := blk_frozen BK101.out 0; have hfz12_1 := blk_frozen BK101.out 1))
   go_ret
   exact ⟨prr1_6, prr1_7⟩
 ·replace c3 := Bool.eq_false_iff.mpr c3; subst c3; have H1 : (some false) = some r := by rw [if_neg (show ¬ (false = true) by decide)] at H; exact H
  clear H; have H := H1; clear H1; obtain rfl := Option.some.inj H; go_enter Try.func30, Try.ntmps30
  go_wp2_with (first | ((with_reducible refine gate_dst (N := 1) rfl ?_); refine box_event ?hg (N := 1) ?hd (cs := #[.int .i64 a0_0, .int .i64 a0_1]) (t := 23) ?hr ?_; (case hd => rfl); (case hg => rfl); (case hr => first | (go_simp; done) | (go_simp; rfl)); intro gb101 hg w13 hbox hb; have n0_ := Aside0.mk (below_step prr1_4 hb); have n1_ := Aside0.mk (hbox); have n2_ := Aside0.mk ((prr1_5 : w.heap.size ≤ gb101)); have n3_ := Aside0.mk ((prr1_5 : w.heap.size ≤ gb101)); clear HB; have HB := n0_; have BK101 := n1_; have GW101 := n2_; have GE101 := n3_; clear n0_ n1_ n2_ n3_; clear hb hbox hg; have hcz14_0 : w13.cell? ⟨gb101, 0, none⟩ = some (.int .i64 a0_0) := (blk_cell BK101.out 0).trans rfl; have hcz14_1 : w13.cell? ⟨gb101, 1, none⟩ = some (.int .i64 a0_1) := (blk_cell BK101.out 1).trans rfl; have hfz14_0 := blk_frozen BK101.out 0; have hfz14_1 := blk_frozen BK101.out 1) | ((with_reducible refine gate_callee (f := 55) rfl ?_); refine goesL_ (some 4) rfl rfl Try.func55 (by kernel_rfl) rfl #[.agg #[.int .i64 a0_0, .int .i64 a0_1]] rfl prr1_2 ?_; (with_reducible refine (accountingref03_Right.calls k a0_0 a0_1 false _ A2.out).mono ?_); rintro e w15 ⟨rfl, hb⟩; refine ⟨_, rfl, ?_⟩; have n0_ := Aside0.mk (blk_below (g := gb101) (o := .cells #[.int .i64 a0_0, .int .i64 a0_1] 23 (0, 0)) prr1_8 hb); have n1_ := Aside0.mk (below_step prr1_7 hb); clear BK101; clear HB; have BK101 := n0_; have HB := n1_; clear n0_ n1_; (try clear hb); (try clear hb2); (try clear hk); (try clear hi)))
  go_ret
  exact ⟨prr1_6, prr1_7⟩
def accountingref25_large.f (a0 : Int) (a1 : Int) : Option (Bool) := if a0 > a1 then (some true) else (some (decide (a0 < (wrap64 (-a1)))))
set_option maxHeartbeats 8000000 in
set_option maxRecDepth 100000 in
theorem accountingref25_large.calls (a0 : Int) (a1 : Int) (r : Bool) (w : World) (h : accountingref25_large.f a0 a1 = some r) :
    Calls Try.prog 43 #[.int .i64 a0, .int .i64 a1] w fun e w' => e = .returned (.bool r) ∧ Drawn0 w w' := by
 have H : (if a0 > a1 then (some true) else (some (decide (a0 < (wrap64 (-a1)))))) = some r := h; clear h
 by_cases c3 : a0 > a1
 ·rw [if_pos c3] at H; have c3b0 : decide (a1 < a0) = true := decide_eq_true c3; clear c3; obtain rfl := Option.some.inj H; go_enter Try.func43, Try.ntmps43
  go_wp2
  go_ret
  exact ⟨prr1_0, prr1_1⟩
 ·rw [if_neg c3] at H; have c3b0 : decide (a1 < a0) = false := decide_eq_false c3; clear c3; obtain rfl := Option.some.inj H; go_enter Try.func43, Try.ntmps43
  go_wp2
  go_ret
  exact ⟨prr1_0, prr1_1⟩
def accountingref25_ask.j0 : Nat → Int → Bool → Int → Int → Option (Int)
  | 0, _, _, _, _ => none
  | k + 1, x0, x12, x102000, x102001 => if x12 = true then (some 10) else ((accountingref25_Rate.f k x102000 x102001).bind fun t102 => (if t102 = true then ((accountingref25_large.f x0 1000000000000000).bind fun t103 => (if t103 = true then (some 4) else (some 0))) else (some 2)))
def accountingref25_ask.f (k : Nat) (a0 : Int) (a1_0 : Int) (a1_1 : Int) (a2 : Int) : Option (Int) := if a2 < 1 then (accountingref25_ask.j0 k a0 true a1_0 a1_1) else (accountingref25_ask.j0 k a0 (decide (a2 > 5)) a1_0 a1_1)
theorem accountingref25_ask.mono_l : ∀ k, (∀ y0 y1 y2 y3, LeO (accountingref25_ask.j0 k y0 y1 y2 y3) (accountingref25_ask.j0 (k + 1) y0 y1 y2 y3))
  | 0 => fun _ _ _ _ r h => by simp [accountingref25_ask.j0] at h
  | k + 1 => by
    have ih0 := accountingref25_ask.mono_l k
    · intro y0 y1 y2 y3
      unfold accountingref25_ask.j0
      repeat' first
      | (with_reducible exact ih0 _ _ _ _)
      | (with_reducible exact accountingref25_Rate.mono _ _ _)
      | (with_reducible exact LeO.refl _)
      | (with_reducible exact LeO.none _)
      | (with_reducible refine LeO.ite ?_ ?_)
      | (with_reducible refine LeO.bind ?_ (fun _ => ?_))
      | exact ih0 _ _ _ _
      | exact accountingref25_Rate.mono _ _ _
      | exact LeO.none _
      | refine LeO.ite ?_ ?_
      | refine LeO.bind ?_ (fun _ => ?_)
theorem accountingref25_ask.mono : ∀ a0 a1 a2 a3 k, LeO (accountingref25_ask.f k a0 a1 a2 a3) (accountingref25_ask.f (k + 1) a0 a1 a2 a3) := by
 intro a0 a1 a2 a3 k; have ih0 := accountingref25_ask.mono_l k
 unfold accountingref25_ask.f
 repeat' first
   | (with_reducible exact ih0 _ _ _ _)
   | (with_reducible exact accountingref25_Rate.mono _ _ _)
   | (with_reducible exact LeO.refl _)
   | (with_reducible exact LeO.none _)
   | (with_reducible refine LeO.ite ?_ ?_)
   | (with_reducible refine LeO.bind ?_ (fun _ => ?_))
   | exact ih0 _ _ _ _
   | exact accountingref25_Rate.mono _ _ _
   | exact LeO.none _
   | refine LeO.ite ?_ ?_
   | refine LeO.bind ?_ (fun _ => ?_)
set_option maxHeartbeats 8000000 in
set_option maxRecDepth 100000 in
theorem accountingref25_ask.calls (k : Nat) (a0 : Int) (a1_0 : Int) (a1_1 : Int) (a2 : Int) (r : Int) (w : World) (h : accountingref25_ask.f k a0 a1_0 a1_1 a2 = some r) :
    Calls Try.prog 24 #[.int .i64 a0, .agg #[.int .i64 a1_0, .int .i64 a1_1], .int .i64 a2] w fun e w' => e = .returned (.int .i64 r) ∧ Below w.heap.size w w' := by
 have hu23 := Try.underlying23; have HB := Aside0.mk (Below.refl w.heap.size w); have H : (if a2 < 1 then (accountingref25_ask.j0 k a0 true a1_0 a1_1) else (accountingref25_ask.j0 k a0 (decide (a2 > 5)) a1_0 a1_1)) = some r := h; clear h; have HC4 := Aside0.mk H; clear H; go_enter Try.func24, Try.ntmps24
 go_upto_region 1 with (first | ((with_reducible refine gate_dst (N := 4) rfl ?_); refine box_event ?hg (N := 4) ?hd (cs := #[.int .i64 a1_0, .int .i64 a1_1]) (t := 23) ?hr ?_; (case hd => rfl); (case hg => rfl); (case hr => first | (go_simp; done) | (go_simp; rfl)); intro gb101 hg w5 hbox hb; have n0_ := Aside0.mk (below_step prr1_4 hb); have n1_ := Aside0.mk (hbox); have n2_ := Aside0.mk ((prr1_5 : w.heap.size ≤ gb101)); have n3_ := Aside0.mk ((prr1_5 : w.heap.size ≤ gb101)); clear HB; have HB := n0_; have BK101 := n1_; have GW101 := n2_; have GE101 := n3_; clear n0_ n1_ n2_ n3_; clear hb hbox hg))
 (try simp only [Act.put, List.setIfInBounds_toArray, List.set_cons_zero, List.set_cons_succ])
 go_cut [12] (fun v12 wc => ∃ (kq : Nat) (x12_3 : Bool), v12 = .bool x12_3 ∧ Aside0 (accountingref25_ask.j0 kq a0 x12_3 a1_0 a1_1 = some r) ∧ Aside0 (kq ≤ k) ∧ Aside0 (wc.heap[gb101]? = some (.cells #[.int .i64 a1_0, .int .i64 a1_1] 23 (0, 0))) ∧ Aside0 (Below w.heap.size w wc))
 case first =>
  have H := HC4.out; clear HC4
  by_cases c6 : a2 < 1
  ·rw [if_pos c6] at H; have c6b0 : decide (a2 < 1) = true := decide_eq_true c6; clear c6; (first | rw [c6b0] | (simp only [i64_w, i32_w]; rw [c6b0]) | skip); have H' := Aside0.mk H; clear H
   go_wp2
   go_meet
   case rel => exact ⟨_, (true), prr1_0, H', ⟨by first | omega | exact Nat.le_refl _⟩, ⟨prr1_8⟩, ⟨prr1_7⟩⟩
  ·rw [if_neg c6] at H; have c6b0 : decide (a2 < 1) = false := decide_eq_false c6; clear c6; (first | rw [c6b0] | (simp only [i64_w, i32_w]; rw [c6b0]) | skip); have H' := Aside0.mk H; clear H
   go_wp2
   go_meet
   case rel => exact ⟨_, (decide (a2 > 5)), prr1_0, H', ⟨by first | omega | exact Nat.le_refl _⟩, ⟨prr1_8⟩, ⟨prr1_7⟩⟩
 case rest =>
  clear HC4; (try clear c2); (try clear p2); (try clear c6); (try clear c6b0); obtain ⟨kq, x12_3, rfl, HA, HJ3, BK101, HB⟩ := hcut
  cases kq with
  | zero => exact absurd HA.out (by simp [accountingref25_ask.j0])
  | succ kj3 =>
   have H := HA.out; clear HA; simp only [accountingref25_ask.j0] at H
   by_cases c7 : x12_3 = true
   ·subst c7; have H1 : (some 10) = some r := by rw [if_pos rfl] at H; exact H
    clear H; have H := H1; clear H1; obtain rfl := Option.some.inj H
    go_wp2
    go_ret
    exact ⟨prr1_6, prr1_7⟩
   ·replace c7 := Bool.eq_false_iff.mpr c7; subst c7; have H1 : ((accountingref25_Rate.f kj3 a1_0 a1_1).bind fun t102 => (if t102 = true then ((accountingref25_large.f a0 1000000000000000).bind fun t103 => (if t103 = true then (some 4) else (some 0))) else (some 2))) = some r := by rw [if_neg (show ¬ (false = true) by decide)] at H; exact H
    clear H; have H := H1; clear H1; replace H := Option.bind_eq_some_iff.mp H; obtain ⟨t102, A80, H⟩ := H; replace H : (if t102 = true then ((accountingref25_large.f a0 1000000000000000).bind fun t103 => (if t103 = true then (some 4) else (some 0))) else (some 2)) = some r := H; have A8 := Aside0.mk A80; clear A80
    by_cases c9 : t102 = true
    ·subst c9; have H1 : ((accountingref25_large.f a0 1000000000000000).bind fun t103 => (if t103 = true then (some 4) else (some 0))) = some r := by rw [if_pos rfl] at H; exact H
     clear H; have H := H1; clear H1; replace H := Option.bind_eq_some_iff.mp H; obtain ⟨t103, A100, H⟩ := H; replace H : (if t103 = true then (some 4) else (some 0)) = some r := H; have A10 := Aside0.mk A100; clear A100
     by_cases c11 : t103 = true
     ·subst c11; have H1 : (some 4) = some r := by rw [if_pos rfl] at H; exact H
      clear H; have H := H1; clear H1; obtain rfl := Option.some.inj H; have hcz12_0 : wc.cell? ⟨gb101, 0, none⟩ = some (.int .i64 a1_0) := (blk_cell BK101.out 0).trans rfl; have hcz12_1 : wc.cell? ⟨gb101, 1, none⟩ = some (.int .i64 a1_1) := (blk_cell BK101.out 1).trans rfl; have hfz12_0 := blk_frozen BK101.out 0; have hfz12_1 := blk_frozen BK101.out 1
      go_wp2_with (first | ((with_reducible refine gate_callee (f := 30) rfl ?_); refine goesL_ (some 14) rfl rfl Try.func30 (by kernel_rfl) rfl #[.agg #[.int .i64 a1_0, .int .i64 a1_1]] rfl prr1_2 ?_; (with_reducible refine (accountingref25_Rate.calls kj3 a1_0 a1_1 true _ A8.out).mono ?_); rintro e w13 ⟨rfl, hb⟩; refine ⟨_, rfl, ?_⟩; have n0_ := Aside0.mk (blk_below (g := gb101) (o := .cells #[.int .i64 a1_0, .int .i64 a1_1] 23 (0, 0)) prr1_8 hb); have n1_ := Aside0.mk (below_step prr1_7 hb); clear BK101; clear HB; have BK101 := n0_; have HB := n1_; clear n0_ n1_; (try clear hb); (try clear hb2); (try clear hk); (try clear hi)) | ((with_reducible refine gate_callee (f := 43) rfl ?_); refine goesL_ (some 17) rfl rfl Try.func43 (by kernel_rfl) rfl #[.int .i64 a0, .int .i64 1000000000000000] rfl prr1_2 ?_; (with_reducible refine (accountingref25_large.calls a0 1000000000000000 true _ A10.out).mono ?_); rintro e w' ⟨rfl, ⟨nd, rfl⟩⟩; refine ⟨_, rfl, ?_⟩))
      go_ret
      exact ⟨prr1_6, prr1_7⟩
     ·replace c11 := Bool.eq_false_iff.mpr c11; subst c11; have H1 : (some 0) = some r := by rw [if_neg (show ¬ (false = true) by decide)] at H; exact H
      clear H; have H := H1; clear H1; obtain rfl := Option.some.inj H; have hcz14_0 : wc.cell? ⟨gb101, 0, none⟩ = some (.int .i64 a1_0) := (blk_cell BK101.out 0).trans rfl; have hcz14_1 : wc.cell? ⟨gb101, 1, none⟩ = some (.int .i64 a1_1) := (blk_cell BK101.out 1).trans rfl; have hfz14_0 := blk_frozen BK101.out 0; have hfz14_1 := blk_frozen BK101.out 1
      go_wp2_with (first | ((with_reducible refine gate_callee (f := 30) rfl ?_); refine goesL_ (some 14) rfl rfl Try.func30 (by kernel_rfl) rfl #[.agg #[.int .i64 a1_0, .int .i64 a1_1]] rfl prr1_2 ?_; (with_reducible refine (accountingref25_Rate.calls kj3 a1_0 a1_1 true _ A8.out).mono ?_); rintro e w15 ⟨rfl, hb⟩; refine ⟨_, rfl, ?_⟩; have n0_ := Aside0.mk (blk_below (g := gb101) (o := .cells #[.int .i64 a1_0, .int .i64 a1_1] 23 (0, 0)) prr1_8 hb); have n1_ := Aside0.mk (below_step prr1_7 hb); clear BK101; clear HB; have BK101 := n0_; have HB := n1_; clear n0_ n1_; (try clear hb); (try clear hb2); (try clear hk); (try clear hi)) | ((with_reducible refine gate_callee (f := 43) rfl ?_); refine goesL_ (some 17) rfl rfl Try.func43 (by kernel_rfl) rfl #[.int .i64 a0, .int .i64 1000000000000000] rfl prr1_2 ?_; (with_reducible refine (accountingref25_large.calls a0 1000000000000000 false _ A10.out).mono ?_); rintro e w' ⟨rfl, ⟨nd, rfl⟩⟩; refine ⟨_, rfl, ?_⟩))
      go_ret
      exact ⟨prr1_6, prr1_7⟩
    ·replace c9 := Bool.eq_false_iff.mpr c9; subst c9; have H1 : (some 2) = some r := by rw [if_neg (show ¬ (false = true) by decide)] at H; exact H
     clear H; have H := H1; clear H1; obtain rfl := Option.some.inj H; have hcz16_0 : wc.cell? ⟨gb101, 0, none⟩ = some (.int .i64 a1_0) := (blk_cell BK101.out 0).trans rfl; have hcz16_1 : wc.cell? ⟨gb101, 1, none⟩ = some (.int .i64 a1_1) := (blk_cell BK101.out 1).trans rfl; have hfz16_0 := blk_frozen BK101.out 0; have hfz16_1 := blk_frozen BK101.out 1
     go_wp2_with (first | ((with_reducible refine gate_callee (f := 30) rfl ?_); refine goesL_ (some 14) rfl rfl Try.func30 (by kernel_rfl) rfl #[.agg #[.int .i64 a1_0, .int .i64 a1_1]] rfl prr1_2 ?_; (with_reducible refine (accountingref25_Rate.calls kj3 a1_0 a1_1 false _ A8.out).mono ?_); rintro e w17 ⟨rfl, hb⟩; refine ⟨_, rfl, ?_⟩; have n0_ := Aside0.mk (blk_below (g := gb101) (o := .cells #[.int .i64 a1_0, .int .i64 a1_1] 23 (0, 0)) prr1_8 hb); have n1_ := Aside0.mk (below_step prr1_7 hb); clear BK101; clear HB; have BK101 := n0_; have HB := n1_; clear n0_ n1_; (try clear hb); (try clear hb2); (try clear hk); (try clear hi)))
     go_ret
     exact ⟨prr1_6, prr1_7⟩
def accountingref25_On.f (k : Nat) (a0 : Int) (a1_0 : Int) (a1_1 : Int) (a2 : Int) : Option (Int × Int) := (accountingref25_ask.f k a0 a1_0 a1_1 a2).bind fun t102 => (if t102 = 0 then ((accountingref02_MulDiv.f k a0 a1_0 a1_1 a2).bind fun bt103 => (some (bt103.1, bt103.2))) else (some (0, t102)))
theorem accountingref25_On.mono : ∀ a0 a1 a2 a3 k, LeO (accountingref25_On.f k a0 a1 a2 a3) (accountingref25_On.f (k + 1) a0 a1 a2 a3) := by
 intro a0 a1 a2 a3 k
 unfold accountingref25_On.f
 repeat' first
   | (with_reducible exact accountingref02_MulDiv.mono _ _ _ _ _)
   | (with_reducible exact accountingref25_ask.mono _ _ _ _ _)
   | (with_reducible exact LeO.refl _)
   | (with_reducible exact LeO.none _)
   | (with_reducible refine LeO.ite ?_ ?_)
   | (with_reducible refine LeO.bind ?_ (fun _ => ?_))
   | exact accountingref02_MulDiv.mono _ _ _ _ _
   | exact accountingref25_ask.mono _ _ _ _ _
   | exact LeO.none _
   | refine LeO.ite ?_ ?_
   | refine LeO.bind ?_ (fun _ => ?_)
set_option maxHeartbeats 8000000 in
set_option maxRecDepth 100000 in
theorem accountingref25_On.calls (k : Nat) (a0 : Int) (a1_0 : Int) (a1_1 : Int) (a2 : Int) (r1 : Int) (r2 : Int) (w : World) (h : accountingref25_On.f k a0 a1_0 a1_1 a2 = some (r1, r2)) :
    Calls Try.prog 11 #[.int .i64 a0, .agg #[.int .i64 a1_0, .int .i64 a1_1], .int .i64 a2] w fun e w' => e = .returned (.tuple #[.int .i64 r1, .int .i64 r2]) ∧ Below w.heap.size w w' := by
 have hu23 := Try.underlying23; have hu3 := Try.underlying3; have HB := Aside0.mk (Below.refl w.heap.size w); have H : ((accountingref25_ask.f k a0 a1_0 a1_1 a2).bind fun t102 => (if t102 = 0 then ((accountingref02_MulDiv.f k a0 a1_0 a1_1 a2).bind fun bt103 => (some (bt103.1, bt103.2))) else (some (0, t102)))) = some (r1, r2) := h; clear h; replace H := Option.bind_eq_some_iff.mp H; obtain ⟨t102, A40, H⟩ := H; replace H : (if t102 = 0 then ((accountingref02_MulDiv.f k a0 a1_0 a1_1 a2).bind fun bt103 => (some (bt103.1, bt103.2))) else (some (0, t102))) = some (r1, r2) := H; have A4 := Aside0.mk A40; clear A40
 by_cases c5 : t102 = 0
 ·rw [if_pos c5] at H; have c5b0 : (t102 == 0) = true := beq_iff_eq.mpr c5; have c5b1 : (t102 != 0) = false := bne_eq_false_iff_eq.mpr c5; clear c5; replace H := Option.bind_eq_some_iff.mp H; obtain ⟨⟨t103, t104⟩, A60, H⟩ := H; replace H : (some (t103, t104)) = some (r1, r2) := H; have A6 := Aside0.mk A60; clear A60; simp only [Option.some.injEq, Prod.mk.injEq] at H; obtain ⟨rfl, rfl⟩ := H; go_enter Try.func11, Try.ntmps11
  go_wp2_with (first | ((with_reducible refine gate_dst (N := 4) rfl ?_); refine box_event ?hg (N := 4) ?hd (cs := #[.int .i64 a1_0, .int .i64 a1_1]) (t := 23) ?hr ?_; (case hd => rfl); (case hg => rfl); (case hr => first | (go_simp; done) | (go_simp; rfl)); intro gb101 hg w7 hbox hb; have n0_ := Aside0.mk (below_step prr1_4 hb); have n1_ := Aside0.mk (hbox); have n2_ := Aside0.mk ((prr1_5 : w.heap.size ≤ gb101)); have n3_ := Aside0.mk ((prr1_5 : w.heap.size ≤ gb101)); clear HB; have HB := n0_; have BK101 := n1_; have GW101 := n2_; have GE101 := n3_; clear n0_ n1_ n2_ n3_; clear hb hbox hg; have hcz8_0 : w7.cell? ⟨gb101, 0, none⟩ = some (.int .i64 a1_0) := (blk_cell BK101.out 0).trans rfl; have hcz8_1 : w7.cell? ⟨gb101, 1, none⟩ = some (.int .i64 a1_1) := (blk_cell BK101.out 1).trans rfl; have hfz8_0 := blk_frozen BK101.out 0; have hfz8_1 := blk_frozen BK101.out 1) | ((with_reducible refine gate_callee (f := 24) rfl ?_); refine goesL_ (some 12) rfl rfl Try.func24 (by kernel_rfl) rfl #[.int .i64 a0, .agg #[.int .i64 a1_0, .int .i64 a1_1], .int .i64 a2] rfl prr1_2 ?_; (with_reducible refine (accountingref25_ask.calls k a0 a1_0 a1_1 a2 t102 _ A4.out).mono ?_); rintro e w9 ⟨rfl, hb⟩; refine ⟨_, rfl, ?_⟩; have n0_ := Aside0.mk (blk_below (g := gb101) (o := .cells #[.int .i64 a1_0, .int .i64 a1_1] 23 (0, 0)) prr1_8 hb); have n1_ := Aside0.mk (below_step prr1_7 hb); clear BK101; clear HB; have BK101 := n0_; have HB := n1_; clear n0_ n1_; (try clear hb); (try clear hb2); (try clear hk); (try clear hi); have hcz10_0 : w9.cell? ⟨gb101, 0, none⟩ = some (.int .i64 a1_0) := (blk_cell BK101.out 0).trans rfl; have hcz10_1 : w9.cell? ⟨gb101, 1, none⟩ = some (.int .i64 a1_1) := (blk_cell BK101.out 1).trans rfl; have hfz10_0 := blk_frozen BK101.out 0; have hfz10_1 := blk_frozen BK101.out 1) | ((with_reducible refine gate_callee (f := 25) rfl ?_); refine goesL_ (some 22) rfl rfl Try.func25 (by kernel_rfl) rfl #[.int .i64 a0, .int .i64 a1_0, .int .i64 a1_1, .int .i64 a2] rfl prr1_2 ?_; (with_reducible refine (accountingref02_MulDiv.calls k a0 a1_0 a1_1 a2 t103 t104 _ A6.out).mono ?_); rintro e w' ⟨rfl, ⟨nd, rfl⟩⟩; refine ⟨_, rfl, ?_⟩))
  go_ret2
  exact ⟨prr1_6, prr1_7⟩
 ·rw [if_neg c5] at H; have c5b0 : (t102 == 0) = false := beq_eq_false_iff_ne.mpr c5; have c5b1 : (t102 != 0) = true := bne_iff_ne.mpr c5; simp only [Option.some.injEq, Prod.mk.injEq] at H; obtain ⟨rfl, rfl⟩ := H; go_enter Try.func11, Try.ntmps11
  go_wp2_with (first | ((with_reducible refine gate_dst (N := 4) rfl ?_); refine box_event ?hg (N := 4) ?hd (cs := #[.int .i64 a1_0, .int .i64 a1_1]) (t := 23) ?hr ?_; (case hd => rfl); (case hg => rfl); (case hr => first | (go_simp; done) | (go_simp; rfl)); intro gb101 hg w11 hbox hb; have n0_ := Aside0.mk (below_step prr1_4 hb); have n1_ := Aside0.mk (hbox); have n2_ := Aside0.mk ((prr1_5 : w.heap.size ≤ gb101)); have n3_ := Aside0.mk ((prr1_5 : w.heap.size ≤ gb101)); clear HB; have HB := n0_; have BK101 := n1_; have GW101 := n2_; have GE101 := n3_; clear n0_ n1_ n2_ n3_; clear hb hbox hg; have hcz12_0 : w11.cell? ⟨gb101, 0, none⟩ = some (.int .i64 a1_0) := (blk_cell BK101.out 0).trans rfl; have hcz12_1 : w11.cell? ⟨gb101, 1, none⟩ = some (.int .i64 a1_1) := (blk_cell BK101.out 1).trans rfl; have hfz12_0 := blk_frozen BK101.out 0; have hfz12_1 := blk_frozen BK101.out 1) | ((with_reducible refine gate_callee (f := 24) rfl ?_); refine goesL_ (some 12) rfl rfl Try.func24 (by kernel_rfl) rfl #[.int .i64 a0, .agg #[.int .i64 a1_0, .int .i64 a1_1], .int .i64 a2] rfl prr1_2 ?_; (with_reducible refine (accountingref25_ask.calls k a0 a1_0 a1_1 a2 t102 _ A4.out).mono ?_); rintro e w13 ⟨rfl, hb⟩; refine ⟨_, rfl, ?_⟩; have n0_ := Aside0.mk (blk_below (g := gb101) (o := .cells #[.int .i64 a1_0, .int .i64 a1_1] 23 (0, 0)) prr1_8 hb); have n1_ := Aside0.mk (below_step prr1_7 hb); clear BK101; clear HB; have BK101 := n0_; have HB := n1_; clear n0_ n1_; (try clear hb); (try clear hb2); (try clear hk); (try clear hi)))
  go_ret2
  exact ⟨prr1_6, prr1_7⟩
def accountingref25_In.f (k : Nat) (a0 : Int) (a1_0 : Int) (a1_1 : Int) (a2 : Int) : Option (Int × Int × Int) := (accountingref25_ask.f k a0 a1_0 a1_1 a2).bind fun t102 => (if t102 = 0 then ((accountingref02_MulDiv.f k a0 a1_0 (wrap64 (a1_0 + a1_1)) a2).bind fun bt103 => (if bt103.2 = 0 then (some (wrap64 (a0 - bt103.1), bt103.1, 0)) else (some (0, 0, bt103.2)))) else (some (0, 0, t102)))
theorem accountingref25_In.mono : ∀ a0 a1 a2 a3 k, LeO (accountingref25_In.f k a0 a1 a2 a3) (accountingref25_In.f (k + 1) a0 a1 a2 a3) := by
 intro a0 a1 a2 a3 k
 unfold accountingref25_In.f
 repeat' first
   | (with_reducible exact accountingref02_MulDiv.mono _ _ _ _ _)
   | (with_reducible exact accountingref25_ask.mono _ _ _ _ _)
   | (with_reducible exact LeO.refl _)
   | (with_reducible exact LeO.none _)
   | (with_reducible refine LeO.ite ?_ ?_)
   | (with_reducible refine LeO.bind ?_ (fun _ => ?_))
   | exact accountingref02_MulDiv.mono _ _ _ _ _
   | exact accountingref25_ask.mono _ _ _ _ _
   | exact LeO.none _
   | refine LeO.ite ?_ ?_
   | refine LeO.bind ?_ (fun _ => ?_)
set_option maxHeartbeats 8000000 in
set_option maxRecDepth 100000 in
theorem accountingref25_In.calls (k : Nat) (a0 : Int) (a1_0 : Int) (a1_1 : Int) (a2 : Int) (r1 : Int) (r2 : Int) (r3 : Int) (w : World) (h : accountingref25_In.f k a0 a1_0 a1_1 a2 = some (r1, r2, r3)) :
    Calls Try.prog 14 #[.int .i64 a0, .agg #[.int .i64 a1_0, .int .i64 a1_1], .int .i64 a2] w fun e w' => e = .returned (.tuple #[.int .i64 r1, .int .i64 r2, .int .i64 r3]) ∧ Below w.heap.size w w' := by
 have hu23 := Try.underlying23; have hu3 := Try.underlying3; have HB := Aside0.mk (Below.refl w.heap.size w); have H : ((accountingref25_ask.f k a0 a1_0 a1_1 a2).bind fun t102 => (if t102 = 0 then ((accountingref02_MulDiv.f k a0 a1_0 (wrap64 (a1_0 + a1_1)) a2).bind fun bt103 => (if bt103.2 = 0 then (some (wrap64 (a0 - bt103.1), bt103.1, 0)) else (some (0, 0, bt103.2)))) else (some (0, 0, t102)))) = some (r1, r2, r3) := h; clear h; replace H := Option.bind_eq_some_iff.mp H; obtain ⟨t102, A40, H⟩ := H; replace H : (if t102 = 0 then ((accountingref02_MulDiv.f k a0 a1_0 (wrap64 (a1_0 + a1_1)) a2).bind fun bt103 => (if bt103.2 = 0 then (some (wrap64 (a0 - bt103.1), bt103.1, 0)) else (some (0, 0, bt103.2)))) else (some (0, 0, t102))) = some (r1, r2, r3) := H; have A4 := Aside0.mk A40; clear A40
 by_cases c5 : t102 = 0
 ·rw [if_pos c5] at H; have c5b0 : (t102 == 0) = true := beq_iff_eq.mpr c5; have c5b1 : (t102 != 0) = false := bne_eq_false_iff_eq.mpr c5; clear c5; replace H := Option.bind_eq_some_iff.mp H; obtain ⟨⟨t103, t104⟩, A60, H⟩ := H; replace H : (if t104 = 0 then (some (wrap64 (a0 - t103), t103, 0)) else (some (0, 0, t104))) = some (r1, r2, r3) := H; have A6 := Aside0.mk A60; clear A60
  by_cases c7 : t104 = 0
  ·rw [if_pos c7] at H; have c7b0 : (t104 == 0) = true := beq_iff_eq.mpr c7; have c7b1 : (t104 != 0) = false := bne_eq_false_iff_eq.mpr c7; clear c7; simp only [Option.some.injEq, Prod.mk.injEq] at H; obtain ⟨rfl, rfl, rfl⟩ := H; go_enter Try.func14, Try.ntmps14
   go_wp2_with (first | ((with_reducible refine gate_dst (N := 4) rfl ?_); refine box_event ?hg (N := 4) ?hd (cs := #[.int .i64 a1_0, .int .i64 a1_1]) (t := 23) ?hr ?_; (case hd => rfl); (case hg => rfl); (case hr => first | (go_simp; done) | (go_simp; rfl)); intro gb101 hg w8 hbox hb; have n0_ := Aside0.mk (below_step prr1_4 hb); have n1_ := Aside0.mk (hbox); have n2_ := Aside0.mk ((prr1_5 : w.heap.size ≤ gb101)); have n3_ := Aside0.mk ((prr1_5 : w.heap.size ≤ gb101)); clear HB; have HB := n0_; have BK101 := n1_; have GW101 := n2_; have GE101 := n3_; clear n0_ n1_ n2_ n3_; clear hb hbox hg; have hcz9_0 : w8.cell? ⟨gb101, 0, none⟩ = some (.int .i64 a1_0) := (blk_cell BK101.out 0).trans rfl; have hcz9_1 : w8.cell? ⟨gb101, 1, none⟩ = some (.int .i64 a1_1) := (blk_cell BK101.out 1).trans rfl; have hfz9_0 := blk_frozen BK101.out 0; have hfz9_1 := blk_frozen BK101.out 1) | ((with_reducible refine gate_callee (f := 24) rfl ?_); refine goesL_ (some 15) rfl rfl Try.func24 (by kernel_rfl) rfl #[.int .i64 a0, .agg #[.int .i64 a1_0, .int .i64 a1_1], .int .i64 a2] rfl prr1_2 ?_; (with_reducible refine (accountingref25_ask.calls k a0 a1_0 a1_1 a2 t102 _ A4.out).mono ?_); rintro e w10 ⟨rfl, hb⟩; refine ⟨_, rfl, ?_⟩; have n0_ := Aside0.mk (blk_below (g := gb101) (o := .cells #[.int .i64 a1_0, .int .i64 a1_1] 23 (0, 0)) prr1_8 hb); have n1_ := Aside0.mk (below_step prr1_7 hb); clear BK101; clear HB; have BK101 := n0_; have HB := n1_; clear n0_ n1_; (try clear hb); (try clear hb2); (try clear hk); (try clear hi); have hcz11_0 : w10.cell? ⟨gb101, 0, none⟩ = some (.int .i64 a1_0) := (blk_cell BK101.out 0).trans rfl; have hcz11_1 : w10.cell? ⟨gb101, 1, none⟩ = some (.int .i64 a1_1) := (blk_cell BK101.out 1).trans rfl; have hfz11_0 := blk_frozen BK101.out 0; have hfz11_1 := blk_frozen BK101.out 1) | ((with_reducible refine gate_callee (f := 25) rfl ?_); refine goesL_ (some 29) rfl rfl Try.func25 (by kernel_rfl) rfl #[.int .i64 a0, .int .i64 a1_0, .int .i64 (wrap64 (a1_0 + a1_1)), .int .i64 a2] rfl prr1_2 ?_; (with_reducible refine (accountingref02_MulDiv.calls k a0 a1_0 (wrap64 (a1_0 + a1_1)) a2 t103 t104 _ A6.out).mono ?_); rintro e w' ⟨rfl, ⟨nd, rfl⟩⟩; refine ⟨_, rfl, ?_⟩))
   go_ret3
   exact ⟨prr1_6, prr1_7⟩
  ·rw [if_neg c7] at H; have c7b0 : (t104 == 0) = false := beq_eq_false_iff_ne.mpr c7; have c7b1 : (t104 != 0) = true := bne_iff_ne.mpr c7; simp only [Option.some.injEq, Prod.mk.injEq] at H; obtain ⟨rfl, rfl, rfl⟩ := H; go_enter Try.func14, Try.ntmps14
   go_wp2_with (first | ((with_reducible refine gate_dst (N := 4) rfl ?_); refine box_event ?hg (N := 4) ?hd (cs := #[.int .i64 a1_0, .int .i64 a1_1]) (t := 23) ?hr ?_; (case hd => rfl); (case hg => rfl); (case hr => first | (go_simp; done) | (go_simp; rfl)); intro gb101 hg w12 hbox hb; have n0_ := Aside0.mk (below_step prr1_4 hb); have n1_ := Aside0.mk (hbox); have n2_ := Aside0.mk ((prr1_5 : w.heap.size ≤ gb101)); have n3_ := Aside0.mk ((prr1_5 : w.heap.size ≤ gb101)); clear HB; have HB := n0_; have BK101 := n1_; have GW101 := n2_; have GE101 := n3_; clear n0_ n1_ n2_ n3_; clear hb hbox hg; have hcz13_0 : w12.cell? ⟨gb101, 0, none⟩ = some (.int .i64 a1_0) := (blk_cell BK101.out 0).trans rfl; have hcz13_1 : w12.cell? ⟨gb101, 1, none⟩ = some (.int .i64 a1_1) := (blk_cell BK101.out 1).trans rfl; have hfz13_0 := blk_frozen BK101.out 0; have hfz13_1 := blk_frozen BK101.out 1) | ((with_reducible refine gate_callee (f := 24) rfl ?_); refine goesL_ (some 15) rfl rfl Try.func24 (by kernel_rfl) rfl #[.int .i64 a0, .agg #[.int .i64 a1_0, .int .i64 a1_1], .int .i64 a2] rfl prr1_2 ?_; (with_reducible refine (accountingref25_ask.calls k a0 a1_0 a1_1 a2 t102 _ A4.out).mono ?_); rintro e w14 ⟨rfl, hb⟩; refine ⟨_, rfl, ?_⟩; have n0_ := Aside0.mk (blk_below (g := gb101) (o := .cells #[.int .i64 a1_0, .int .i64 a1_1] 23 (0, 0)) prr1_8 hb); have n1_ := Aside0.mk (below_step prr1_7 hb); clear BK101; clear HB; have BK101 := n0_; have HB := n1_; clear n0_ n1_; (try clear hb); (try clear hb2); (try clear hk); (try clear hi); have hcz15_0 : w14.cell? ⟨gb101, 0, none⟩ = some (.int .i64 a1_0) := (blk_cell BK101.out 0).trans rfl; have hcz15_1 : w14.cell? ⟨gb101, 1, none⟩ = some (.int .i64 a1_1) := (blk_cell BK101.out 1).trans rfl; have hfz15_0 := blk_frozen BK101.out 0; have hfz15_1 := blk_frozen BK101.out 1) | ((with_reducible refine gate_callee (f := 25) rfl ?_); refine goesL_ (some 29) rfl rfl Try.func25 (by kernel_rfl) rfl #[.int .i64 a0, .int .i64 a1_0, .int .i64 (wrap64 (a1_0 + a1_1)), .int .i64 a2] rfl prr1_2 ?_; (with_reducible refine (accountingref02_MulDiv.calls k a0 a1_0 (wrap64 (a1_0 + a1_1)) a2 t103 t104 _ A6.out).mono ?_); rintro e w' ⟨rfl, ⟨nd, rfl⟩⟩; refine ⟨_, rfl, ?_⟩))
   go_ret3
   exact ⟨prr1_6, prr1_7⟩
 ·rw [if_neg c5] at H; have c5b0 : (t102 == 0) = false := beq_eq_false_iff_ne.mpr c5; have c5b1 : (t102 != 0) = true := bne_iff_ne.mpr c5; simp only [Option.some.injEq, Prod.mk.injEq] at H; obtain ⟨rfl, rfl, rfl⟩ := H; go_enter Try.func14, Try.ntmps14
  go_wp2_with (first | ((with_reducible refine gate_dst (N := 4) rfl ?_); refine box_event ?hg (N := 4) ?hd (cs := #[.int .i64 a1_0, .int .i64 a1_1]) (t := 23) ?hr ?_; (case hd => rfl); (case hg => rfl); (case hr => first | (go_simp; done) | (go_simp; rfl)); intro gb101 hg w16 hbox hb; have n0_ := Aside0.mk (below_step prr1_4 hb); have n1_ := Aside0.mk (hbox); have n2_ := Aside0.mk ((prr1_5 : w.heap.size ≤ gb101)); have n3_ := Aside0.mk ((prr1_5 : w.heap.size ≤ gb101)); clear HB; have HB := n0_; have BK101 := n1_; have GW101 := n2_; have GE101 := n3_; clear n0_ n1_ n2_ n3_; clear hb hbox hg; have hcz17_0 : w16.cell? ⟨gb101, 0, none⟩ = some (.int .i64 a1_0) := (blk_cell BK101.out 0).trans rfl; have hcz17_1 : w16.cell? ⟨gb101, 1, none⟩ = some (.int .i64 a1_1) := (blk_cell BK101.out 1).trans rfl; have hfz17_0 := blk_frozen BK101.out 0; have hfz17_1 := blk_frozen BK101.out 1) | ((with_reducible refine gate_callee (f := 24) rfl ?_); refine goesL_ (some 15) rfl rfl Try.func24 (by kernel_rfl) rfl #[.int .i64 a0, .agg #[.int .i64 a1_0, .int .i64 a1_1], .int .i64 a2] rfl prr1_2 ?_; (with_reducible refine (accountingref25_ask.calls k a0 a1_0 a1_1 a2 t102 _ A4.out).mono ?_); rintro e w18 ⟨rfl, hb⟩; refine ⟨_, rfl, ?_⟩; have n0_ := Aside0.mk (blk_below (g := gb101) (o := .cells #[.int .i64 a1_0, .int .i64 a1_1] 23 (0, 0)) prr1_8 hb); have n1_ := Aside0.mk (below_step prr1_7 hb); clear BK101; clear HB; have BK101 := n0_; have HB := n1_; clear n0_ n1_; (try clear hb); (try clear hb2); (try clear hk); (try clear hi)))
  go_ret3
  exact ⟨prr1_6, prr1_7⟩
end Go.Proofs.Ytgjpegmhlnabpaa.M
end
