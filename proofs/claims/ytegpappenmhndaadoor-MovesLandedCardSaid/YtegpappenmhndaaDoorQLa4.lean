/- The law of the movements, walked and shown. Part 4 of 4 of what is the claim's own. -/
import Derived.Test.YtegpappenmhndaaDoorQBB1
import Derived.Test.YtegpappenmhndaaDoorQBB4
import Derived.Test.YtegpappenmhndaaDoorQLa3
import Derived.Test.YtegpappenmhndaaDoorQBB7
import Derived.Test.YtegpappenmhndaaDoorQBB3
import Derived.Test.YtegpappenmhndaaDoorQLa2
import Derived.Test.YtegpappenmhndaaDoorQLa1
import Derived.Test.YtegpappenmhndaaDoorQBB8
import Derived.Test.YtegpappenmhndaaDoorRows
import Derived.ProofKit
import Derived.LaidMore
import Derived.OpenShut
import Derived.Stop.Joined
import Derived.WalkKit
import Derived.ShutString
import Derived.ChangeOld
import Derived.Below
import Derived.SizedLaws
import Derived.Test.YtegpappenmhndaaDoorCards
import Derived.Test.YtegpappenmhndaaDoorTie
import Derived.SevenTiedAt
import Derived.Test.YtegpappenmhndaaDoorQBB2
namespace Go.Proofs.YtegpappenmhndaaDoor.M
theorem pla4_0 {p : Prop} (h : p := by first | (go_simp; done) | (go_simp; rfl)) : p := h
end Go.Proofs.YtegpappenmhndaaDoor.M
section
namespace Go.Proofs.YtegpappenmhndaaDoor.M
open Go.RowKit Go.Proofs.YtegpappenmhndaaDoorW.PrintWords Dv
set_option linter.unusedVariables false
set_option linter.unusedSimpArgs false
theorem F76.eq {a : Int} (h : inI a) : F76.f a = some (ab a) := by
 unfold inI at h
 unfold F76.f ab
 simp only [wrap_u64]
 split
 ·congr 1; omega
 ·congr 1; omega
theorem F75.eq {x y : Int} (h0 : 0 ≤ x) (h1 : x < 18446744073709551616) (h2 : 0 ≤ y) (h3 : y < 18446744073709551616) : F75.f x y = some (x * y / 18446744073709551616, x * y % 18446744073709551616) := by
 obtain ⟨e1, e2⟩ := mul_words x y h0 h1 h2 h3; rw [← e1, ← e2]
 rfl
theorem F77.eq {P c : Int} (h0 : 0 ≤ P) (h1 : P < 18446744073709551616 * 18446744073709551616) (hc : 0 < c) (hc1 : c < 18446744073709551616) : F77.f (P / 18446744073709551616) (P % 18446744073709551616) c = some (qh (P / 18446744073709551616) c, ql (P / 18446744073709551616) (P % 18446744073709551616) c, P % c) := by
 unfold F77.f
 rw [if_pos ⟨hc, hc1, by omega, by omega, by omega, by omega⟩, (div_words P c h0 hc).2]
theorem F79.eq {neg : Bool} {z : Int} (h0 : 0 ≤ z) (h1 : z < 18446744073709551616) : F79.f neg z = some (signv neg z) := by
 unfold F79.f signv
 cases neg with
 | true =>
  simp only [if_true]
  split
  ·rfl
  ·congr 2
   rw [wrap_u64]
   unfold wrap64
   omega
 | false =>
  simp only [Bool.false_eq_true, if_false]
  split
  ·rfl
  ·congr 2
   unfold wrap64
   omega
theorem F78.eq {mode : Int} {neg : Bool} {q r c : Int} (hq : 0 ≤ q) (hm : 1 ≤ mode ∧ mode ≤ 5) (h0 : 0 ≤ r) (h1 : r < c) (h2 : c < 18446744073709551616) : F78.f mode neg ((Int.tmod q 2) == 1) r c = some (awayv mode neg q r c) := by
 have e : IntKind.u64.wrap (c - r) = c - r := u64w (by omega) (by omega); have e2 : Int.tmod q 2 = q % 2 := Int.tmod_eq_emod_of_nonneg hq
 unfold F78.f awayv
 rw [e, e2]; have hmm : mode = 1 ∨ mode = 2 ∨ mode = 3 ∨ mode = 4 ∨ mode = 5 := by omega
 by_cases hr : r = 0
 ·simp [hr]
 ·rcases hmm with rfl | rfl | rfl | rfl | rfl <;> simp [hr]
  by_cases h3 : r > c - r
  ·have h4 : c - r < r := h3
   simp [h3, h4]
  ·have h4 : ¬ c - r < r := h3
   by_cases h5 : r = c - r
   ·rw [if_neg h3, if_pos h5]
    simp [h4, ← h5]
    by_cases h6 : q % 2 = 1 <;> simp [h6]
   ·simp [h3, h4, h5]
theorem negv_pos {a b c : Int} (h : negv a b c = true) : a * b ≠ 0 := by
 unfold negv at h
 simp at h
 intro k
 rcases Int.mul_eq_zero.1 k with z | z <;> simp [z] at h
theorem signv_big {neg : Bool} {z : Int} (h : 18446744073709551616 ≤ z) : signv neg z = (0, 4) := by
 unfold signv
 cases neg
 ·simp; omega
 ·simp; omega
theorem negv_eq {a b c : Int} : negv a b c = if (decide (ab a * ab b = 0)) = true then false else (((decide (a < 0)) != (decide (b < 0))) != (decide (c < 0))) := by
 unfold negv
 have e : (ab a * ab b = 0) ↔ (a * b = 0) := by
  rw [Int.mul_eq_zero, Int.mul_eq_zero, ab_zero, ab_zero]
 by_cases h : a * b = 0
 ·simp [e, h]
 ·simp [e, h]
theorem F66.eq {a b c : Int} (mode : Int) (ha : inI a) (hb : inI b) (hc : inI c) : Ev (fun k => F66.f k a b c mode) (mdv a b c mode) := by
 unfold mdv
 by_cases hm : mode < 1 ∨ mode > 5
 ·rw [if_pos hm]
  have j : Ev (fun k => F66.j0 k a b c mode true) (0, 10) := by
   refine Ev.succ ?_; simp only [F66.j0, if_true]; exact Ev.const _
  by_cases h1 : mode < 1
  ·simp only [F66.f, if_pos h1]; exact j
  ·have h2 : mode > 5 := by omega
   simp only [F66.f, if_neg h1, decide_eq_true h2]; exact j
 rw [if_neg hm]; have h1 : ¬ mode < 1 := by omega
 have h2 : ¬ mode > 5 := by omega
 simp only [F66.f, if_neg h1, decide_eq_false h2]; refine Ev.succ ?_; simp only [F66.j0, Bool.false_eq_true, if_false]
 by_cases h3 : c = 0
 ·simp only [if_pos h3]; exact Ev.const _
 have ba := ab_bound ha; have bb := ab_bound hb; have bc := ab_bound hc; have pc := ab_pos h3; have bp := prod_ab ha hb; simp only [if_neg h3, F76.eq ha, F76.eq hb, Option.bind_some, F75.eq ba.1 (show ab a < 18446744073709551616 by omega) bb.1 (show ab b < 18446744073709551616 by omega)]
 have J : ∀ neg, Ev (fun k => F66.j1 k c mode neg (ab a * ab b / 18446744073709551616) (ab a * ab b % 18446744073709551616)) (signv neg (ab a * ab b / ab c + if awayv mode neg (ab a * ab b / ab c) (ab a * ab b % ab c) (ab c) = true then 1 else 0)) := by
  intro neg; refine Ev.succ ?_; simp only [F66.j1, F76.eq hc, Option.bind_some, F77.eq bp.1 bp.2 pc (show ab c < 18446744073709551616 by omega)]; have dw := (div_words (ab a * ab b) (ab c) bp.1 pc).1; have q0 : 0 ≤ ab a * ab b / ab c := Int.ediv_nonneg bp.1 (by omega); have r0 : 0 ≤ ab a * ab b % ab c := Int.emod_nonneg _ (by omega); have r1 : ab a * ab b % ab c < ab c := Int.emod_lt_of_pos _ pc; have qz := qh_zero (ab a * ab b) (ab c) bp.1 pc; have aw := F78.eq (mode := mode) (neg := neg) q0 (by omega) r0 r1 (show ab c < 18446744073709551616 by omega)
  by_cases hz : qh (ab a * ab b / 18446744073709551616) (ab c) = 0
  ·have hq := qz.1 hz; rw [hz, Int.zero_mul, Int.zero_add] at dw; rw [dw]; simp only [if_pos hz, aw, Option.bind_some]
   by_cases haw : awayv mode neg (ab a * ab b / ab c) (ab a * ab b % ab c) (ab c) = true
   ·simp only [if_pos haw]
    by_cases hw : ab a * ab b / ab c + 1 = 18446744073709551616
    ·have e : IntKind.u64.wrap (ab a * ab b / ab c + 1) = 0 := by rw [wrap_u64, hw]; rfl
     rw [signv_big (by omega)]; simp only [e, if_true]; exact Ev.const _
    ·have e : IntKind.u64.wrap (ab a * ab b / ab c + 1) = ab a * ab b / ab c + 1 := u64w (by omega) (by omega); have e2 : ¬ ab a * ab b / ab c + 1 = 0 := by omega
     simp only [e, if_neg e2, F79.eq (neg := neg) (z := ab a * ab b / ab c + 1) (by omega) (by omega), Option.bind_some]; exact Ev.const _
   ·simp only [if_neg haw, Int.add_zero, F79.eq (neg := neg) (z := ab a * ab b / ab c) q0 hq, Option.bind_some]; exact Ev.const _
  ·have hq : ¬ ab a * ab b / ab c < 18446744073709551616 := fun k => hz (qz.2 k); rw [signv_big (by split <;> omega)]; simp only [if_neg hz]; exact Ev.const _
 unfold sizev
 rw [negv_eq]
 have hne : (!(ab a * ab b / 18446744073709551616 == 0) || (!(ab a * ab b % 18446744073709551616 == 0))) = !(decide (ab a * ab b = 0)) := by
  by_cases hp : ab a * ab b = 0
  ·simp [hp]
  ·by_cases hx : ab a * ab b / 18446744073709551616 = 0
   ·have hy : ¬ ab a * ab b % 18446744073709551616 = 0 := by omega
    simp [hp, hx, hy]
   ·simp [hp, hx]
 simp only [hne]
 by_cases hp : ab a * ab b = 0
 ·simp only [hp, decide_true, Bool.not_true, Bool.false_eq_true, if_false, if_true]; have := J false
  simpa only [hp] using this
 ·simp only [hp, decide_false, Bool.not_false, Bool.false_eq_true, if_false, if_true]; exact J _
theorem F67.eq {a b c : Int} (ha : inI a) (hb : inI b) (hc : inI c) : F67.f a b c = some (modv a b c) := by
 unfold modv F67.f
 by_cases h3 : c = 0
 ·simp only [if_pos h3]
 have ba := ab_bound ha; have bb := ab_bound hb; have bc := ab_bound hc; have pc := ab_pos h3; have bp := prod_ab ha hb; simp only [if_neg h3, F76.eq ha, F76.eq hb, F76.eq hc, Option.bind_some, F75.eq ba.1 (show ab a < 18446744073709551616 by omega) bb.1 (show ab b < 18446744073709551616 by omega), F77.eq bp.1 bp.2 pc (show ab c < 18446744073709551616 by omega)]; have r0 : 0 ≤ ab a * ab b % ab c := Int.emod_nonneg _ (by omega); have r1 : ab a * ab b % ab c < ab c := Int.emod_lt_of_pos _ pc
 have sg : a * b = if ((decide (a < 0)) != (decide (b < 0))) = true then -(ab a * ab b) else ab a * ab b := by
  unfold ab
  by_cases x : a < 0 <;> by_cases y : b < 0 <;> simp [x, y, Int.neg_mul, Int.mul_neg]
 have e1 : ∀ z : Int, 0 ≤ z → z < ab c → wrap64 z = z := fun z z0 z1 => w64 (by omega) (by omega); rw [sg]
 by_cases hz : ab a * ab b % ab c = 0
 ·simp only [if_pos hz]
  congr 2
  rw [hz]
  split
  ·rw [Int.emod_eq_zero_of_dvd (Int.dvd_neg.2 (Int.dvd_of_emod_eq_zero hz))]; exact w64 (by omega) (by omega)
  ·rw [hz]; exact w64 (by omega) (by omega)
 ·simp only [if_neg hz]
  by_cases n : ((decide (a < 0)) != (decide (b < 0))) = true
  ·simp only [if_pos n]; rw [u64w (n := ab c - ab a * ab b % ab c) (by omega) (by omega), e1 (ab c - ab a * ab b % ab c) (by omega) (by omega)]
   congr 2
   have h := Int.emod_add_mul_ediv (ab a * ab b) (ab c)
   have : -(ab a * ab b) = (ab c - ab a * ab b % ab c) + ab c * (-(ab a * ab b / ab c) - 1) := by
    rw [Int.mul_sub, Int.mul_neg]; omega
   rw [this, Int.add_mul_emod_self_left]; exact (Int.emod_eq_of_lt (by omega) (by omega)).symm
  ·simp only [if_neg n]; rw [e1 _ r0 r1]
end Go.Proofs.YtegpappenmhndaaDoor.M
end
section
namespace Go.Proofs.YtegpappenmhndaaDoor.M
open Go.RowKit Go.Proofs.YtegpappenmhndaaDoorW.PrintWords Dv
set_option linter.unusedVariables false
def shErr (a : Int) (l : List Int) : Int :=
 if l.length > 200 then 9 else if a > 1000000000000000 ∨ a < -1000000000000000 then 4 else if ∃ x ∈ l, x < 0 then 2 else if l.sum > 1000000000000000 then 4 else if l.sum = 0 then 2 else 0
theorem sum_nonneg : ∀ l : List Int, (∀ x ∈ l, 0 ≤ x) → 0 ≤ l.sum
 | [], _ => by simp
 | x :: l, h => by
  have h1 := h x (by simp); have h2 := sum_nonneg l (fun y hy => h y (by simp [hy])); simp only [List.sum_cons]; omega
theorem F74.go : ∀ (B A : List Int) (i n : Int), i = (A.length : Int) → n = (A.length : Int) + B.length → n < 1000000 → ∃ v, Ev (fun k => F74.l0 k (A ++ B) n i) v ∧ ((0 ≤ v) ↔ ∃ x ∈ B, x < 0)
 | [], A, i, n, hi, hn, hs => by
  refine ⟨-1, Ev.succ ?_, by simp⟩; have g : ¬ i < n := by simp at hn; omega
  simp only [F74.l0, if_neg g]; exact Ev.const _
 | x :: B, A, i, n, hi, hn, hs => by
  simp only [List.length_cons] at hn; have g : i < n := by omega
  have g1 : 0 ≤ i := by omega
  have g2 : i < ((A ++ x :: B).length : Int) := by simp; omega
  have r := rd_at A x B i hi; have e : wrap64 (i + 1) = i + 1 := w64 (by omega) (by omega)
  by_cases hx : x < 0
  ·refine ⟨i, Ev.succ ?_, by simp [hx, g1]⟩; simp only [F74.l0, if_pos g, if_pos g1, if_pos g2, r, F65.f, Option.bind_some, decide_eq_true hx, if_true]; exact Ev.const _
  ·obtain ⟨v, h1, h2⟩ := F74.go B (A ++ [x]) (i + 1) n (by simp; omega) (by simp; omega) hs; refine ⟨v, Ev.succ ?_, by rw [h2]; simp [hx]⟩; simp only [F74.l0, if_pos g, if_pos g1, if_pos g2, r, F65.f, Option.bind_some, decide_eq_false hx, Bool.false_eq_true, if_false, e]
   simpa using h1
theorem F64.eq (l : List Int) (h : l.length < 1000000) : Ev (fun k => F64.f k l) (decide (∃ x ∈ l, x < 0)) := by
 obtain ⟨v, h1, h2⟩ := F74.go l [] 0 l.length rfl (by simp) (by omega)
 unfold F64.f F74.f
 refine Ev.bind (by simpa using h1) ?_
 have : (decide (v ≥ 0)) = decide (∃ x ∈ l, x < 0) := by
  by_cases hx : ∃ x ∈ l, x < 0
  ·rw [decide_eq_true hx, decide_eq_true (h2.2 hx)]
  ·rw [decide_eq_false hx, decide_eq_false (fun k => hx (h2.1 k))]
 rw [this]; exact Ev.const _
def sumFrom (s : Int) (B : List Int) : Int × Int := if s + B.sum > 1000000000000000 then (0, 4) else if s + B.sum = 0 then (0, 2) else (s + B.sum, 0)
theorem F56.go : ∀ (B A : List Int) (s i n : Int), i = (A.length : Int) → n = (A.length : Int) + B.length → n < 1000000 → 0 ≤ s → s ≤ 1000000000000000 → (∀ x ∈ B, 0 ≤ x ∧ x ≤ 9223372036854775807) → Ev (fun k => F56.l0 k s (A ++ B) n i) (sumFrom s B)
 | [], A, s, i, n, hi, hn, hs, h0, h1, hB => by
  refine Ev.succ ?_; have g : ¬ i < n := by simp at hn; omega
  simp only [F56.l0, if_neg g, sumFrom, List.sum_nil, Int.add_zero, if_neg (show ¬ s > 1000000000000000 by omega)]
  split
  ·exact Ev.const _
  ·exact Ev.const _
 | x :: B, A, s, i, n, hi, hn, hs, h0, h1, hB => by
  simp only [List.length_cons] at hn; have g : i < n := by omega
  have g1 : 0 ≤ i := by omega
  have g2 : i < ((A ++ x :: B).length : Int) := by simp; omega
  have r := rd_at A x B i hi; have e : wrap64 (i + 1) = i + 1 := w64 (by omega) (by omega); have hx := hB x (by simp); have e2 : wrap64 (1000000000000000 - s) = 1000000000000000 - s := w64 (by omega) (by omega); have hBs := sum_nonneg B (fun y hy => (hB y (by simp [hy])).1); refine Ev.succ ?_
  by_cases hc : x > 1000000000000000 - s
  ·simp only [F56.l0, if_pos g, if_pos g1, if_pos g2, r, e2, if_pos hc]; have : sumFrom s (x :: B) = (0, 4) := by unfold sumFrom; rw [List.sum_cons, if_pos (by omega)]
   rw [this]; exact Ev.const _
  ·have e3 : wrap64 (s + x) = s + x := w64 (by omega) (by omega); simp only [F56.l0, if_pos g, if_pos g1, if_pos g2, r, e2, if_neg hc, e, e3]; have ih := F56.go B (A ++ [x]) (s + x) (i + 1) n (by simp; omega) (by simp; omega) hs (by omega) (by omega) (fun y hy => hB y (by simp [hy])); have : sumFrom s (x :: B) = sumFrom (s + x) B := by unfold sumFrom; rw [List.sum_cons, Int.add_assoc]
   rw [this]; simpa using ih
theorem sumFrom_zero (l : List Int) : sumFrom 0 l = if l.sum > 1000000000000000 then (0, 4) else if l.sum = 0 then (0, 2) else (l.sum, 0) := by simp [sumFrom]
theorem F56.eq (l : List Int) (hl : l.length < 1000000) (hw : ∀ x ∈ l, x ≤ 9223372036854775807) : Ev (fun k => F56.f k l) (if ∃ x ∈ l, x < 0 then (0, 2) else sumFrom 0 l) := by
 unfold F56.f
 refine Ev.bind (F64.eq l hl) ?_
 by_cases h : ∃ x ∈ l, x < 0
 ·simp only [decide_eq_true h, if_true, if_pos h]; exact Ev.const _
 ·simp only [decide_eq_false h, Bool.false_eq_true, if_false, if_neg h]
  have := F56.go l [] 0 0 l.length rfl (by simp) (by omega) (by omega) (by omega) (fun x hx => ⟨by
   have : ¬ x < 0 := fun k => h ⟨x, hx, k⟩
   omega, hw x hx⟩)
  simpa using this
def rOrd (r : List Int) (i k : Int) : Prop := rd r i > rd r k ∨ (rd r i = rd r k ∧ i < k)
theorem rOrd.tot (r : List Int) : Tot (rOrd r) where
 trans x y z h k := by unfold rOrd at *; omega
 tot x y h := by unfold rOrd; omega
 irr x h := by unfold rOrd at h; omega
def idx (n : Nat) : List Int := (List.range n).map fun (i : Nat) => (i : Int)
theorem idx_length (n : Nat) : (idx n).length = n := by simp [idx]
theorem idx_succ (n : Nat) : idx (n + 1) = idx n ++ [(n : Int)] := by simp [idx, List.range_succ]
theorem mem_idx (n : Nat) (i : Int) : i ∈ idx n ↔ 0 ≤ i ∧ i < n := by
 simp only [idx, List.mem_map, List.mem_range]
 constructor
 ·rintro ⟨j, h, rfl⟩; omega
 ·intro h; exact ⟨i.toNat, by omega, by omega⟩
theorem idx_lt (n : Nat) : (idx n).Pairwise (· < ·) := by
 unfold idx
 rw [List.pairwise_map]; exact List.pairwise_lt_range.imp (fun h => by omega)
theorem rk_ex (r : List Int) (h : r.length < 1000) : ∃ Z, Z.Perm (idx r.length) ∧ Z.Pairwise (rOrd r) ∧ Ev (fun k => F82.f k (idx r.length) r.length r) Z := by
 refine F82.f_sort r (rOrd r) (rOrd.tot r) (idx r.length) ?_ r.length (by rw [idx_length]) (by rw [idx_length]; omega); refine (List.Pairwise.and_mem.1 (idx_lt r.length)).imp ?_; rintro x y ⟨hx, hy, hxy⟩; rw [mem_idx] at hx hy; refine ⟨by omega, ?_⟩
 unfold F81.f
 simp only [if_pos hx.1, if_pos hx.2, if_pos hy.1, if_pos hy.2]
 by_cases c1 : rd r y > rd r x
 ·exact ⟨-1, by rw [if_pos c1], by unfold rOrd; constructor <;> intro <;> omega⟩
 ·by_cases c2 : rd r y < rd r x
  ·exact ⟨1, by rw [if_neg c1, if_pos c2], by unfold rOrd; constructor <;> intro <;> omega⟩
  ·exact ⟨0, by rw [if_neg c1, if_neg c2], by unfold rOrd; constructor <;> intro <;> omega⟩
open Classical in
noncomputable def rk (r : List Int) : List Int := if h : ∃ Z : List Int, Z.Perm (idx r.length) ∧ Z.Pairwise (rOrd r) then h.choose else []
theorem rk_spec (r : List Int) (h : r.length < 1000) : (rk r).Perm (idx r.length) ∧ (rk r).Pairwise (rOrd r) := by
 obtain ⟨Z, z1, z2, _⟩ := rk_ex r h; have e : ∃ Z : List Int, Z.Perm (idx r.length) ∧ Z.Pairwise (rOrd r) := ⟨Z, z1, z2⟩
 unfold rk
 rw [dif_pos e]; exact e.choose_spec
theorem rk_uniq (r Z : List Int) (h : r.length < 1000) (h1 : Z.Perm (idx r.length)) (h2 : Z.Pairwise (rOrd r)) : Z = rk r := by
 obtain ⟨r1, r2⟩ := rk_spec r h; exact List.Perm.eq_of_pairwise (le := rOrd r) (fun a b _ _ k1 k2 => absurd k2 ((rOrd.tot r).asym k1)) h2 r2 (h1.trans r1.symm)
theorem F68.fill (r : List Int) (N : Nat) (Z : List Int) (hN : N < 1000) (hZ : Ev (fun k => F82.f k (idx N) N r) Z) : ∀ (d i : Nat), i + d = N → Ev (fun k => F68.l0 k (idx i ++ List.replicate d 0) N i r) Z
 | 0, i, h => by
  obtain rfl : i = N := by omega
  refine Ev.succ ?_; have g : ¬ (i : Int) < i := by omega
  have hl : (idx i ++ List.replicate 0 (0 : Int)).length = i := by simp [idx_length]
  have g1 : (0 : Int) ≤ ((idx i ++ List.replicate 0 (0 : Int)).length : Int) := by omega
  have g2 : ((idx i ++ List.replicate 0 (0 : Int)).length : Int).toNat ≤ 35184372088832 := by omega
  simp only [F68.l0, if_neg g, if_pos g1, if_pos g2, pw_copy_37.f, Option.bind_some]
  have e : (idx i ++ List.replicate 0 (0 : Int)).take (List.replicate ((idx i ++ List.replicate 0 (0 : Int)).length : Int).toNat (0 : Int)).length ++ (List.replicate ((idx i ++ List.replicate 0 (0 : Int)).length : Int).toNat (0 : Int)).drop (idx i ++ List.replicate 0 (0 : Int)).length = idx i := by
   simp [idx_length]
   exact List.take_of_length_le (by rw [idx_length]; omega)
  rw [e]; refine Ev.bind (a := Z) ?_ (Ev.const _)
  unfold F80.f
  rw [idx_length]; exact Ev.bind hZ (Ev.const _)
 | d + 1, i, h => by
  have hl : (idx i ++ List.replicate (d + 1) (0 : Int)).length = N := by simp [idx_length]; omega
  have g : (i : Int) < N := by omega
  have g1 : (0 : Int) ≤ i := by omega
  have g2 : (i : Int) < ((idx i ++ List.replicate (d + 1) (0 : Int)).length : Int) := by omega
  have e : wrap64 ((i : Int) + 1) = ((i + 1 : Nat) : Int) := by rw [w64 (by omega) (by omega)]; omega
  refine Ev.succ ?_; simp only [F68.l0, if_pos g, if_pos g1, if_pos g2, e]
  have s1 : (idx i ++ List.replicate (d + 1) (0 : Int)).set (i : Int).toNat i = idx (i + 1) ++ List.replicate d 0 := by
   rw [List.replicate_succ, set_at _ _ _ _ _ (by rw [idx_length]), idx_succ]; simp
  rw [s1]; exact F68.fill r N Z hN hZ d (i + 1) (by omega)
theorem F68.eq (r : List Int) (h : r.length < 1000) : Ev (fun k => F68.f k r) (rk r) := by
 obtain ⟨Z, z1, z2, z3⟩ := rk_ex r h; rw [← rk_uniq r Z h z1 z2]; have g1 : (0 : Int) ≤ (r.length : Int) := by omega
 have g2 : (r.length : Int).toNat ≤ 35184372088832 := by omega
 simp only [F68.f, if_pos g1, if_pos g2, Option.bind_some]; have := F68.fill r r.length Z h z3 r.length 0 (by omega)
 simpa [idx] using this
def inc (x Y : List Int) : List Int := Y.foldl (fun x y => x.set y.toNat (rd x y + 1)) x
theorem inc_cons (x : List Int) (y : Int) (Y : List Int) : inc x (y :: Y) = inc (x.set y.toNat (rd x y + 1)) Y := rfl
theorem inc_length : ∀ (Y x : List Int), (inc x Y).length = x.length
 | [], x => rfl
 | y :: Y, x => by rw [inc_cons, inc_length Y]; simp
theorem rd_set (x : List Int) (i j v : Int) (hi : 0 ≤ i) (hi2 : i < x.length) (hj : 0 ≤ j) : rd (x.set i.toNat v) j = if j = i then v else rd x j := by
 unfold rd
 rw [List.getD_eq_getElem?_getD, List.getElem?_set]
 by_cases h : j = i
 ·subst h; rw [if_pos rfl, if_pos (by omega), if_pos rfl]; rfl
 ·rw [if_neg (by omega), if_neg h, List.getD_eq_getElem?_getD]
theorem rd_inc : ∀ (Y x : List Int) (i : Int), Y.Nodup → (∀ y ∈ Y, 0 ≤ y ∧ y < x.length) → 0 ≤ i → rd (inc x Y) i = rd x i + if i ∈ Y then 1 else 0
 | [], x, i, _, _, _ => by simp [inc]
 | y :: Y, x, i, hn, hy, hi => by
  obtain ⟨n1, n2⟩ := List.nodup_cons.1 hn; have h0 := hy y (by simp); rw [inc_cons, rd_inc Y _ i n2 (fun z hz => by rw [List.length_set]; exact hy z (by simp [hz])) hi, rd_set x y i _ h0.1 h0.2 hi]
  by_cases h : i = y
  ·subst h; simp [n1]
  ·simp [h]
theorem rd_mem' (x : List Int) (i : Int) (h0 : 0 ≤ i) (h1 : i < x.length) : rd x i ∈ x := by
 have := rd_mem [] x [] i (by simpa using h0) (by simpa using h1)
 simpa using this
theorem mem_set' {x : List Int} {n : Nat} {v w : Int} (h : w ∈ x.set n v) : w = v ∨ w ∈ x := by
 rcases List.mem_or_eq_of_mem_set h with h | h
 ·exact .inr h
 ·exact .inl h
theorem F57.go1 : ∀ (Y2 Y1 x : List Int) (n i : Int), i = (Y1.length : Int) → n = (Y1.length : Int) + Y2.length → n < 1000000 → (∀ y ∈ Y2, 0 ≤ y ∧ y < x.length) → (∀ v ∈ x, 0 ≤ v ∧ v + Y2.length ≤ 9000000000000000000) → Ev (fun k => F57.l1 k x (Y1 ++ Y2) n i) (inc x Y2)
 | [], Y1, x, n, i, hi, hn, hs, hy, hv => by
  refine Ev.succ ?_; have g : ¬ i < n := by simp at hn; omega
  simp only [F57.l1, if_neg g]; exact Ev.const _
 | y :: Y2, Y1, x, n, i, hi, hn, hs, hy, hv => by
  simp only [List.length_cons] at hn hv; have h0 := hy y (by simp); have g : i < n := by omega
  have g1 : 0 ≤ i := by omega
  have g2 : i < ((Y1 ++ y :: Y2).length : Int) := by simp; omega
  have r := rd_at Y1 y Y2 i hi; have hm := hv _ (rd_mem' x y h0.1 h0.2); have e : wrap64 (i + 1) = i + 1 := w64 (by omega) (by omega); have e2 : wrap64 (rd x y + 1) = rd x y + 1 := w64 (by omega) (by omega); refine Ev.succ ?_; simp only [F57.l1, if_pos g, if_pos g1, if_pos g2, r, if_pos h0.1, if_pos h0.2, e, e2]
  have ih := F57.go1 Y2 (Y1 ++ [y]) (x.set y.toNat (rd x y + 1)) n (i + 1) (by simp; omega) (by simp; omega) hs (fun z hz => by rw [List.length_set]; exact hy z (by simp [hz])) (fun v hvm => by
   rcases mem_set' hvm with rfl | h
   ·omega
   ·have := hv v h; omega)
  rw [inc_cons]
  simpa using ih
def qs (s t : Int) (l : List Int) : List Int := l.map fun w => s * w / t
def rs (s t : Int) (l : List Int) : List Int := l.map fun w => s * w % t
theorem mdv_down {s w t : Int} (h0 : 0 ≤ s) (h1 : s ≤ 1000000000000000) (h2 : 0 ≤ w) (h3 : w ≤ t) (h4 : 0 < t) : mdv s w t 1 = (s * w / t, 0) ∧ 0 ≤ s * w / t ∧ s * w / t ≤ s := by
 have hp : 0 ≤ s * w := Int.mul_nonneg h0 h2; have q0 : 0 ≤ s * w / t := Int.ediv_nonneg hp (by omega)
 have q1 : s * w / t ≤ s := by
  have : s * w ≤ s * t := Int.mul_le_mul_of_nonneg_left h3 h0; have h5 := Int.ediv_le_ediv h4 this
  rwa [Int.mul_ediv_cancel _ (by omega)] at h5
 refine ⟨?_, q0, q1⟩
 unfold mdv
 rw [if_neg (by omega), if_neg (by omega)]
 have n : negv s w t = false := by
  unfold negv
  rw [decide_eq_false (show ¬ s < 0 by omega), decide_eq_false (show ¬ w < 0 by omega), decide_eq_false (show ¬ t < 0 by omega)]
  simp
 have z : sizev s w t 1 = s * w / t := by
  unfold sizev awayv ab
  rw [if_neg (show ¬ s < 0 by omega), if_neg (show ¬ w < 0 by omega), if_neg (show ¬ t < 0 by omega), n]
  simp
 rw [n, z]
 unfold signv
 rw [if_neg (by simp), if_neg (by omega)]
theorem modv_down {s w t : Int} (h4 : 0 < t) : modv s w t = (s * w % t, 0) := by
 unfold modv ab
 rw [if_neg (by omega), if_neg (by omega)]
def lf (s t : Int) (l : List Int) : Int := s - (qs s t l).sum
theorem sum_qr (s t : Int) (ht : 0 < t) : ∀ l : List Int, t * (qs s t l).sum + (rs s t l).sum = s * l.sum
 | [] => by simp [qs, rs]
 | w :: l => by
  have ih := sum_qr s t ht l; have h := Int.emod_add_mul_ediv (s * w) t; simp only [qs, rs, List.map_cons, List.sum_cons, Int.mul_add] at *
  omega
theorem rs_bounds (s t : Int) (ht : 0 < t) (l : List Int) : ∀ x ∈ rs s t l, 0 ≤ x ∧ x < t := by
 intro x hx; obtain ⟨w, _, rfl⟩ := List.mem_map.1 hx; exact ⟨Int.emod_nonneg _ (by omega), Int.emod_lt_of_pos _ ht⟩
theorem sum_rs (t : Int) : ∀ l : List Int, (∀ x ∈ l, 0 ≤ x ∧ x < t) → 0 ≤ l.sum ∧ l.sum ≤ t * l.length
 | [], _ => by simp
 | x :: l, h => by
  have ih := sum_rs t l (fun y hy => h y (by simp [hy])); have hx := h x (by simp); simp only [List.sum_cons, List.length_cons]; have : t * ((l.length + 1 : Nat) : Int) = t * l.length + t := by rw [Int.natCast_add, Int.mul_add]; simp
  omega
theorem lf_bounds (s : Int) (l : List Int) (ht : 0 < l.sum) : 0 ≤ lf s l.sum l ∧ lf s l.sum l ≤ l.length ∧ l.sum * lf s l.sum l = (rs s l.sum l).sum := by
 have h := sum_qr s l.sum ht l; have hr := sum_rs l.sum (rs s l.sum l) (rs_bounds s l.sum ht l); have hl : (rs s l.sum l).length = l.length := by simp [rs]
 rw [hl] at hr
 have e : l.sum * lf s l.sum l = (rs s l.sum l).sum := by
  unfold lf
  rw [Int.mul_sub, Int.mul_comm l.sum s]; omega
 refine ⟨?_, ?_, e⟩
 ·have : 0 ≤ l.sum * lf s l.sum l := by omega
  exact Int.nonneg_of_mul_nonneg_right this ht
 ·have : l.sum * lf s l.sum l ≤ l.sum * l.length := by omega
  exact Int.le_of_mul_le_mul_left this ht
theorem qs_snoc (s t : Int) (l : List Int) (w : Int) : qs s t (l ++ [w]) = qs s t l ++ [s * w / t] := by simp [qs]
theorem rs_snoc (s t : Int) (l : List Int) (w : Int) : rs s t (l ++ [w]) = rs s t l ++ [s * w % t] := by simp [rs]
theorem qs_bounds {s t : Int} (h0 : 0 ≤ s) (h1 : s ≤ 1000000000000000) (h4 : 0 < t) (l : List Int) (hl : ∀ w ∈ l, 0 ≤ w ∧ w ≤ t) : ∀ x ∈ qs s t l, 0 ≤ x ∧ x ≤ 1000000000000000 := by
 intro x hx; obtain ⟨w, hw, rfl⟩ := List.mem_map.1 hx; have := mdv_down h0 h1 (hl w hw).1 (hl w hw).2 h4
 omega
noncomputable def pos (s : Int) (l : List Int) : List Int := inc (qs s l.sum l) ((rk (rs s l.sum l)).take (lf s l.sum l).toNat)
theorem F57.go0 (s t : Int) (h0 : 0 ≤ s) (h1 : s ≤ 1000000000000000) (h4 : 0 < t) (ht : t ≤ 1000000000000000) (X : List Int) : ∀ (W2 W1 : List Int) (n i left : Int), i = (W1.length : Int) → n = (W1.length : Int) + W2.length → n ≤ 1000 → (∀ w ∈ W2, 0 ≤ w ∧ w ≤ t) → left ≤ 1000000000000000 → -1000000000000000 * i ≤ left →
  Ev (fun k => (F68.f k (rs s t (W1 ++ W2))).bind fun t114 => (if 0 ≤ left - (qs s t W2).sum then (if left - (qs s t W2).sum ≤ (t114.length : Int) then ((some (t114.take (left - (qs s t W2).sum).toNat : List Int)).bind fun y117 => (F57.l1 k (qs s t (W1 ++ W2)) y117 (y117.length : Int) 0)) else (none)) else (none))) X →
  Ev (fun k => F57.l0 k s t (qs s t W1 ++ List.replicate W2.length 0) (rs s t W1 ++ List.replicate W2.length 0) left (W1 ++ W2) n i) X
 | [], W1, n, i, left, hi, hn, hs, hw, l1, l2, hX => by
  refine Ev.succ ?_; have g : ¬ i < n := by simp at hn; omega
  simp only [F57.l0, if_neg g]
  simpa [qs, rs] using hX
 | w :: W2, W1, n, i, left, hi, hn, hs, hw, l1, l2, hX => by
  simp only [List.length_cons] at hn; have hw0 := hw w (by simp); have g : i < n := by omega
  have g1 : 0 ≤ i := by omega
  have g2 : i < ((W1 ++ w :: W2).length : Int) := by simp; omega
  have r := rd_at W1 w W2 i hi; obtain ⟨m1, m2, m3⟩ := mdv_down h0 h1 hw0.1 hw0.2 h4; have M := F66.eq (a := s) (b := w) (c := t) 1 (by unfold inI; omega) (by unfold inI; omega) (by unfold inI; omega); have D := F67.eq (a := s) (b := w) (c := t) (by unfold inI; omega) (by unfold inI; omega) (by unfold inI; omega); rw [m1] at M; rw [modv_down h4] at D; have e : wrap64 (i + 1) = i + 1 := w64 (by omega) (by omega); have e2 : wrap64 (left - s * w / t) = left - s * w / t := w64 (by omega) (by omega); have lq : (qs s t W1).length = W1.length := by simp [qs]
  have lr : (rs s t W1).length = W1.length := by simp [rs]
  have g3 : i < ((qs s t W1 ++ List.replicate (w :: W2).length (0 : Int)).length : Int) := by simp [lq]; omega
  have g4 : i < ((rs s t W1 ++ List.replicate (w :: W2).length (0 : Int)).length : Int) := by simp [lr]; omega
  refine Ev.succ ?_; simp only [F57.l0, if_pos g, if_pos g1, if_pos g2, r]; refine Ev.bind M ?_; simp only [D, Option.bind_some, if_pos g3, if_pos g4, e, e2]
  have s1 : (qs s t W1 ++ List.replicate (w :: W2).length (0 : Int)).set i.toNat (s * w / t) = qs s t (W1 ++ [w]) ++ List.replicate W2.length 0 := by
   rw [List.length_cons, List.replicate_succ, set_at _ _ _ _ _ (by rw [lq]; exact hi), qs_snoc]; simp
  have s2 : (rs s t W1 ++ List.replicate (w :: W2).length (0 : Int)).set i.toNat (s * w % t) = rs s t (W1 ++ [w]) ++ List.replicate W2.length 0 := by
   rw [List.length_cons, List.replicate_succ, set_at _ _ _ _ _ (by rw [lr]; exact hi), rs_snoc]; simp
  rw [s1, s2]
  have ih := F57.go0 s t h0 h1 h4 ht X W2 (W1 ++ [w]) n (i + 1) (left - s * w / t) (by simp; omega) (by simp; omega) hs (fun z hz => hw z (by simp [hz])) (by omega) (by omega) (by
   have e5 : (qs s t (w :: W2)).sum = s * w / t + (qs s t W2).sum := by simp [qs]
   have e6 : left - s * w / t - (qs s t W2).sum = left - (qs s t (w :: W2)).sum := by omega
   rw [e6]
   simpa using hX)
  simpa using ih
theorem le_sum {l : List Int} (h : ∀ x ∈ l, 0 ≤ x) : ∀ x ∈ l, x ≤ l.sum := by
 induction l with
 | nil => intro x hx; simp at hx
 | cons y l ih =>
  intro x hx; have h1 := sum_nonneg l (fun z hz => h z (by simp [hz])); have h2 := h y (by simp); rw [List.sum_cons]
  rcases List.mem_cons.1 hx with rfl | hx
  ·omega
  ·have := ih (fun z hz => h z (by simp [hz])) x hx
   omega
structure Fit (s : Int) (l : List Int) : Prop where
 s0 : 0 ≤ s
 s1 : s ≤ 1000000000000000
 w0 : ∀ x ∈ l, 0 ≤ x
 t0 : 0 < l.sum
 t1 : l.sum ≤ 1000000000000000
 n : l.length ≤ 200
theorem Fit.w {s : Int} {l : List Int} (h : Fit s l) : ∀ w ∈ l, 0 ≤ w ∧ w ≤ l.sum := fun w hw => ⟨h.w0 w hw, le_sum h.w0 w hw⟩
theorem Fit.rk {s : Int} {l : List Int} (h : Fit s l) : (rk (rs s l.sum l)).Perm (idx l.length) ∧ (rk (rs s l.sum l)).Pairwise (rOrd (rs s l.sum l)) := by
 have := rk_spec (rs s l.sum l) (by have := h.n; simp [rs]; omega)
 simpa [rs] using this
theorem Fit.take {s : Int} {l : List Int} (h : Fit s l) : ∀ y ∈ (M.rk (rs s l.sum l)).take (lf s l.sum l).toNat, 0 ≤ y ∧ y < (qs s l.sum l).length := by
 intro y hy; have := h.rk.1.mem_iff.1 (List.mem_of_mem_take hy); rw [mem_idx] at this
 simpa [qs] using this
theorem F57.eq {s : Int} {l : List Int} (h : Fit s l) : Ev (fun k => F57.f k s l.sum l) (pos s l) := by
 have g1 : (0 : Int) ≤ (l.length : Int) := by omega
 have g2 : (l.length : Int).toNat ≤ 35184372088832 := by have := h.n; omega
 simp only [F57.f, if_pos g1, if_pos g2]; have hn := h.n; have lb := lf_bounds s l h.t0; have hl : (rk (rs s l.sum l)).length = l.length := by rw [h.rk.1.length_eq, idx_length]
 have := F57.go0 s l.sum h.s0 h.s1 h.t0 h.t1 (pos s l) l [] l.length 0 s rfl (by simp) (by omega) h.w h.s1 (by have := h.s0; omega) (by
  refine Ev.bind (F68.eq _ (by simp [rs]; omega)) ?_; have g3 : 0 ≤ s - (qs s l.sum l).sum := lb.1; have g4 : s - (qs s l.sum l).sum ≤ ((rk (rs s l.sum l)).length : Int) := by rw [hl]; exact lb.2.1
  simp only [List.nil_append, if_pos g3, if_pos g4, Option.bind_some]; refine F57.go1 ((rk (rs s l.sum l)).take (lf s l.sum l).toNat) [] (qs s l.sum l) ((((rk (rs s l.sum l)).take (lf s l.sum l).toNat).length : Nat) : Int) 0 rfl (by simp) (by rw [List.length_take]; omega) h.take (fun v hv => ?_); have := qs_bounds h.s0 h.s1 h.t0 l h.w v hv; have : ((rk (rs s l.sum l)).take (lf s l.sum l).toNat).length ≤ 200 := by simp; omega
  omega)
 simpa [qs, rs] using this
noncomputable def shr (a : Int) (l : List Int) : List Int := if a < 0 then (pos (-a) l).map (fun x => -x) else pos a l
theorem pos_bounds {s : Int} {l : List Int} (h : Fit s l) : ∀ v ∈ pos s l, 0 ≤ v ∧ v ≤ 2000000000000000 := by
 have key : ∀ (Y x : List Int) (b : Int), (∀ v ∈ x, 0 ≤ v ∧ v ≤ b) → (∀ y ∈ Y, 0 ≤ y ∧ y < x.length) → ∀ v ∈ inc x Y, 0 ≤ v ∧ v ≤ b + Y.length := by
  intro Y
  induction Y with
  | nil => intro x b h _ v hv; have := h v hv; simp; omega
  | cons y Y ih =>
   intro x b hx hy v hv; have hy0 := hy y (by simp)
   have := ih (x.set y.toNat (rd x y + 1)) (b + 1) (fun w hw => by
    have hm := hx _ (rd_mem' x y hy0.1 hy0.2)
    rcases mem_set' hw with rfl | hw
    ·omega
    ·have := hx w hw; omega) (fun z hz => by rw [List.length_set]; exact hy z (by simp [hz])) v hv
   simp only [List.length_cons]; omega
 intro v hv; have := key _ _ 1000000000000000 (qs_bounds h.s0 h.s1 h.t0 l h.w) h.take v hv; have hl : (M.rk (rs s l.sum l)).length = l.length := by rw [h.rk.1.length_eq, idx_length]
 have hn := h.n; have : ((M.rk (rs s l.sum l)).take (lf s l.sum l).toNat).length ≤ 200 := by simp; omega
 omega
theorem F44.neg : ∀ (B A : List Int) (n i : Int), i = (A.length : Int) → n = (A.length : Int) + B.length → n < 1000000 → (∀ v ∈ B, 0 ≤ v ∧ v ≤ 2000000000000000) → Ev (fun k => F44.l0 k (A ++ B) n i) (A ++ B.map (fun x => -x), 0)
 | [], A, n, i, hi, hn, hs, hB => by
  refine Ev.succ ?_; have g : ¬ i < n := by simp at hn; omega
  simp only [F44.l0, if_neg g]
  simpa using Ev.const _
 | x :: B, A, n, i, hi, hn, hs, hB => by
  simp only [List.length_cons] at hn; have g : i < n := by omega
  have g1 : 0 ≤ i := by omega
  have g2 : i < ((A ++ x :: B).length : Int) := by simp; omega
  have r := rd_at A x B i hi; have hx := hB x (by simp); have e : wrap64 (i + 1) = i + 1 := w64 (by omega) (by omega); have e2 : wrap64 (-x) = -x := w64 (by omega) (by omega); refine Ev.succ ?_; simp only [F44.l0, if_pos g, if_pos g1, if_pos g2, r, e, e2, set_at A x (-x) B i hi]; have ih := F44.neg B (A ++ [-x]) n (i + 1) (by simp; omega) (by simp; omega) hs (fun z hz => hB z (by simp [hz]))
  simpa using ih
theorem shErr_le {a : Int} {l : List Int} : shErr a l = 0 → Fit (if a < 0 then -a else a) l := by
 intro h
 unfold shErr at h
 split at h
 ·omega
 ·split at h
  ·omega
  ·split at h
   ·omega
   ·split at h
    ·omega
    ·split at h
     ·omega
     ·rename_i h1 h2 h3 h4 h5
      have h3' : ∀ x ∈ l, 0 ≤ x := fun x hx => by
       have : ¬ x < 0 := fun k => h3 ⟨x, hx, k⟩
       omega
      have := sum_nonneg l h3'; exact ⟨by split <;> omega, by split <;> omega, h3', by omega, by omega, by omega⟩
theorem F44.eq {a : Int} {l : List Int} (hl : l.length < 100000000000000) (hw : ∀ x ∈ l, x ≤ 9223372036854775807) : Ev (fun k => F44.f k a l) (if shErr a l = 0 then shr a l else [], shErr a l) := by
 by_cases c1 : l.length > 200
 ·have c1' : (l.length : Int) > 200 := by omega
  have : shErr a l = 9 := by unfold shErr; rw [if_pos c1]
  rw [this]; simp only [F44.f, if_pos c1']; exact Ev.const _
 ·have c1' : ¬ (l.length : Int) > 200 := by omega
  have J : ∀ b, b = (decide (a > 1000000000000000 ∨ a < -1000000000000000)) → Ev (fun k => F44.j0 k a l b) (if shErr a l = 0 then shr a l else [], shErr a l) := by
   intro b hb; subst hb; refine Ev.succ ?_
   by_cases c2 : a > 1000000000000000 ∨ a < -1000000000000000
   ·have : shErr a l = 4 := by unfold shErr; rw [if_neg c1, if_pos c2]
    rw [this]; simp only [F44.j0, decide_eq_true c2, if_true]; exact Ev.const _
   ·simp only [F44.j0, decide_eq_false c2, Bool.false_eq_true, if_false]; have T := F56.eq l (by omega) hw; refine Ev.bind T ?_
    by_cases c3 : ∃ x ∈ l, x < 0
    ·have : shErr a l = 2 := by unfold shErr; rw [if_neg c1, if_neg c2, if_pos c3]
     rw [this]; simp only [if_pos c3]; exact Ev.const _
    ·simp only [if_neg c3, sumFrom_zero]
     by_cases c4 : l.sum > 1000000000000000
     ·have : shErr a l = 4 := by unfold shErr; rw [if_neg c1, if_neg c2, if_neg c3, if_pos c4]
      rw [this]; simp only [if_pos c4]; exact Ev.const _
     ·by_cases c5 : l.sum = 0
      ·have : shErr a l = 2 := by unfold shErr; rw [if_neg c1, if_neg c2, if_neg c3, if_neg c4, if_pos c5]
       rw [this]; simp only [if_neg c4, if_pos c5]; exact Ev.const _
      ·have z : shErr a l = 0 := by unfold shErr; rw [if_neg c1, if_neg c2, if_neg c3, if_neg c4, if_neg c5]
       have F := shErr_le z; rw [z]; simp only [if_neg c4, if_neg c5, if_true]
       unfold shr
       by_cases c6 : a < 0
       ·simp only [if_pos c6] at F ⊢; rw [w64 (n := -a) (by omega) (by omega)]; refine Ev.bind (F57.eq F) ?_
        have hlen : ((pos (-a) l).length : Int) ≤ 200 := by
         unfold pos; rw [inc_length]; simp [qs]; omega
        have := F44.neg (pos (-a) l) [] (pos (-a) l).length 0 rfl (by simp) (by omega) (pos_bounds F)
        simpa using this
       ·simp only [if_neg c6] at F ⊢; exact Ev.bind (F57.eq F) (Ev.const _)
  by_cases c2 : a > 1000000000000000
  ·simp only [F44.f, if_neg c1', if_pos c2]; exact J true (by simp [c2])
  ·simp only [F44.f, if_neg c1', if_neg c2]; exact J _ (by simp [c2])
theorem wfb {x : Int} (h : (Lit.int .i64 x).wf = true) : -9223372036854775808 ≤ x ∧ x ≤ 9223372036854775807 := by
 have e1 : IntKind.i64.min = -9223372036854775808 := by decide
 have e2 : IntKind.i64.max = 9223372036854775807 := by decide
 simp [Lit.wf, e1, e2] at h
 exact h
theorem F21.go (L : List Int) (hs : L.length < 100000000000000) : ∀ (d : Nat) (i : Int), i + d = L.length → 0 ≤ i → Ev (fun k => F21.l0 k L L i) true
 | 0, i, hi, h0 => by
  refine Ev.succ ?_; have g : ¬ i < (L.length : Int) := by omega
  simp only [F21.l0, if_neg g]; exact Ev.const _
 | d + 1, i, hi, h0 => by
  refine Ev.succ ?_; have g : i < (L.length : Int) := by omega
  have e : wrap64 (i + 1) = i + 1 := w64 (by omega) (by omega); simp only [F21.l0, if_pos g, if_pos h0, if_true, e]; exact F21.go L hs d (i + 1) (by omega) (by omega)
theorem F21.self (L : List Int) (hs : L.length < 100000000000000) : Ev (fun k => F21.f k L L) true := by
 simp only [F21.f, if_true]; exact F21.go L hs L.length 0 (by omega) (by omega)
theorem pos_length (s : Int) (l : List Int) : (pos s l).length = l.length := by unfold pos; rw [inc_length]; simp [qs]
theorem shr_length (a : Int) (l : List Int) : (shr a l).length = l.length := by
 unfold shr; split
 ·rw [List.length_map, pos_length]
 ·exact pos_length _ _
theorem sum_set (x : List Int) : ∀ (n : Nat) (v : Int), n < x.length → (x.set n v).sum = x.sum + v - x.getD n 0 := by
 induction x with
 | nil => intro n v h; simp at h
 | cons y x ih =>
  intro n v h
  cases n with
  | zero => simp; omega
  | succ n =>
   have := ih n v (by simpa using h); simp only [List.set_cons_succ, List.sum_cons, List.getD_cons_succ, this]; omega
theorem sum_inc : ∀ (Y x : List Int), (∀ y ∈ Y, 0 ≤ y ∧ y < x.length) → (inc x Y).sum = x.sum + Y.length
 | [], x, _ => by simp [inc]
 | y :: Y, x, h => by
  have h0 := h y (by simp); rw [inc_cons, sum_inc Y _ (fun z hz => by rw [List.length_set]; exact h z (by simp [hz])), sum_set x y.toNat _ (by omega)]; simp only [List.length_cons, rd]; omega
theorem pos_sum {s : Int} {l : List Int} (h : Fit s l) : (pos s l).sum = s := by
 have lb := lf_bounds s l h.t0; have hl : (rk (rs s l.sum l)).length = l.length := by rw [h.rk.1.length_eq, idx_length]
 unfold pos
 rw [sum_inc _ _ h.take, List.length_take, hl]; have e : lf s l.sum l = s - (qs s l.sum l).sum := rfl
 omega
theorem sum_neg : ∀ l : List Int, (l.map (fun x => -x)).sum = -l.sum
 | [] => by simp
 | x :: l => by simp only [List.map_cons, List.sum_cons, sum_neg l]; omega
theorem shr_sum {a : Int} {l : List Int} (h : shErr a l = 0) : (shr a l).sum = a := by
 have F := shErr_le h
 unfold shr
 by_cases c : a < 0
 ·simp only [if_pos c] at F ⊢; rw [sum_neg, pos_sum F]; omega
 ·simp only [if_neg c] at F ⊢; exact pos_sum F
theorem shr_bounds {a : Int} {l : List Int} (h : shErr a l = 0) : ∀ v ∈ shr a l, -2000000000000000 ≤ v ∧ v ≤ 2000000000000000 := by
 have F := shErr_le h
 unfold shr
 by_cases c : a < 0
 ·simp only [if_pos c] at F ⊢; intro v hv; obtain ⟨w, hw, rfl⟩ := List.mem_map.1 hv; have := pos_bounds F w hw
  omega
 ·simp only [if_neg c] at F ⊢; intro v hv; have := pos_bounds F v hv
  omega
theorem shErr_many {a : Int} {l : List Int} (h : l.length > 200) : shErr a l = 9 := by unfold shErr; rw [if_pos h]
end Go.Proofs.YtegpappenmhndaaDoor.M
end
section
namespace Go.Proofs.YtegpappenmhndaaDoor.M
open Go.RowKit Go.Proofs.YtegpappenmhndaaDoorW.PrintWords Go.Proofs.YtegpappenmhndaaDoorW.PrintLast
set_option linter.unusedVariables false
set_option linter.unusedSimpArgs false
theorem recE_zero {l : List MV} {value : Int} : ∀ {r P : List Int}, recE l value P r = 0 → ∀ n ∈ r, 1 ≤ n ∧ n ≤ (l.length : Int) ∧ (rdv l (n - 1)).f3 = 1 ∧ (rdv l (n - 1)).f1 ≤ value
 | [], _, _, n, hn => by simp at hn
 | m :: r, P, h, n, hn => by
  simp only [recE] at h
  by_cases c1 : ¬ (1 ≤ m ∧ m ≤ (l.length : Int) ∧ (rdv l (m - 1)).f3 = 1)
  ·rw [if_pos c1] at h; omega
  rw [if_neg c1] at h
  by_cases c2 : m ∈ P
  ·rw [if_pos c2] at h; omega
  rw [if_neg c2] at h
  by_cases c3 : value < (rdv l (m - 1)).f1
  ·rw [if_pos c3] at h; omega
  rw [if_neg c3] at h
  rcases List.mem_cons.1 hn with e | e
  ·subst e; have c1 := Decidable.not_not.1 c1; exact ⟨c1.1, c1.2.1, c1.2.2, by omega⟩
  ·exact recE_zero h n e
def wgt (bc : Bool) (m : MV) : Int := if bc = true then m.f5 else m.f4
abbrev wgts (l : List MV) (bc : Bool) (r : List Int) : List Int := r.map fun n => wgt bc (rdv l (n - 1))
def outv (l : List MV) (value : Int) (out : List MV) : List Int → List Int → List MV × Int
 | s :: ss, n :: ns => if s > 1000000000000 then ([], 4) else if s > 0 then outv l value (out ++ [⟨(l.length : Int) + (out.length : Int) + 1, value, (rdv l (n - 1)).f2, 5, 0, s, ⟨#[]⟩, n⟩]) ss ns else outv l value out ss ns
 | _, _ => (out, 0)
noncomputable def landv (l : List MV) (r : List Int) (amount : Int) (bc : Bool) (value : Int) : List MV × Int :=
 if (Checkv l).2 = 0 then (if dayv value = true then (if amount < 1 then ([], 2) else if recE l value [] r = 0 then (if shErr amount (wgts l bc r) = 0 then outv l value [] (shr amount (wgts l bc r)) r else ([], shErr amount (wgts l bc r))) else ([], recE l value [] r)) else ([], 11)) else ([], (Checkv l).2)
theorem F22.l1_go {l : List MV} {value : Int} (hl : l.length ≤ 2000) (S r : List Int) (hn : ∀ n ∈ r, (rdv l (n - 1)).f0 = n) : ∀ (SB SA rA rB : List Int) (out : List MV) (N : Int), SA ++ SB = S → rA ++ rB = r → SA.length = rA.length → SB.length = rB.length → N = (S.length : Int) → N < 1000000 → out.length ≤ SA.length →
  Ev (fun k => F22.l1 k l value out (fnd l r) S N (SA.length : Int)) (outv l value out SB rB)
 | [], SA, rA, rB, out, N, e1, e2, e3, e4, hN, hN2, ho => by
  have : SA.length = S.length := by rw [← e1]; simp
  refine Ev.succ ?_; simp only [F22.l1, outv, if_neg (show ¬ (SA.length : Int) < N by omega)]; exact Ev.const _
 | s :: SB, SA, rA, [], out, N, e1, e2, e3, e4, hN, hN2, ho => by simp at e4
 | s :: SB, SA, rA, n :: rB, out, N, e1, e2, e3, e4, hN, hN2, ho => by
  have hS : (S.length : Int) = (SA.length : Int) + (SB.length : Int) + 1 := by rw [← e1]; simp; omega
  have hr : r.length = rA.length + (rB.length + 1) := by rw [← e2]; simp
  have hs : rd S (SA.length : Int) = s := by rw [← e1]; exact rd_at SA s SB _ rfl
  have hf : rd_T23 (fnd l r) (SA.length : Int) = rdv l (n - 1) := by
   rw [← e2, show fnd l (rA ++ n :: rB) = fnd l rA ++ rdv l (n - 1) :: fnd l rB by simp [fnd]]; exact rdv_at _ _ _ _ (by rw [e3]; simp [fnd])
  have h0 := hn n (by rw [← e2]; simp); have e4' : SB.length = rB.length := by simpa using e4
  refine Ev.succ ?_; simp only [F22.l1, outv, if_pos (show (SA.length : Int) < N by omega), if_pos (show (0 : Int) ≤ (SA.length : Int) by omega), if_pos (show (SA.length : Int) < (S.length : Int) by omega), hs, hf, h0]; rw [w64 (n := (SA.length : Int) + 1) (by omega) (by omega), w64 (n := (l.length : Int) + (out.length : Int)) (by omega) (by omega), w64 (n := (l.length : Int) + (out.length : Int) + 1) (by omega) (by omega)]; have eS : (SA.length : Int) + 1 = ((SA ++ [s]).length : Int) := by simp
  rw [eS]
  by_cases c : s > 1000000000000
  ·simp only [if_pos c]; exact Ev.const _
  simp only [if_neg c]
  by_cases d : s > 0
  ·simp only [if_pos d, if_pos (show (SA.length : Int) < ((fnd l r).length : Int) by simp; omega), if_pos (show out.length < 1759218604441 by omega)]; exact F22.l1_go hl S r hn SB (SA ++ [s]) (rA ++ [n]) rB _ N (by simpa using e1) (by simpa using e2) (by simp [e3]) e4' hN hN2 (by simp; omega)
  ·simp only [if_neg d]; exact F22.l1_go hl S r hn SB (SA ++ [s]) (rA ++ [n]) rB _ N (by simpa using e1) (by simpa using e2) (by simp [e3]) e4' hN hN2 (by simp; omega)
theorem F22.l0_go {l : List MV} {amount value : Int} {bc : Bool} {F : List MV} {X : List MV × Int}
  (hX : Ev (fun k => (F44.f k amount (F.map (wgt bc))).bind fun b => if b.2 = 0 then F22.l1 k l value [] F b.1 (b.1.length : Int) 0 else some ([], b.2)) X) : ∀ (B A : List MV) (N : Int), A ++ B = F → N = (F.length : Int) → N < 10000000 →
  Ev (fun k => F22.l0 k l amount bc value F (A.map (wgt bc)) F N (A.length : Int)) X
 | [], A, N, e, hN, hN2 => by
  obtain rfl : A = F := by simpa using e
  refine Ev.succ ?_; simp only [F22.l0, if_neg (show ¬ (A.length : Int) < N by omega)]; exact hX
 | m :: B, A, N, e, hN, hN2 => by
  have hF : (F.length : Int) = (A.length : Int) + (B.length : Int) + 1 := by rw [← e]; simp; omega
  have hm : rd_T23 F (A.length : Int) = m := by rw [← e]; exact rdv_at A B m _ rfl
  have ih := F22.l0_go hX B (A ++ [m]) N (by simpa using e) hN hN2; rw [show ((A ++ [m]).length : Int) = (A.length : Int) + 1 by simp, show (A ++ [m]).map (wgt bc) = A.map (wgt bc) ++ [wgt bc m] by simp] at ih; refine Ev.succ ?_; simp only [F22.l0, if_pos (show (A.length : Int) < N by omega), if_pos (show (0 : Int) ≤ (A.length : Int) by omega), if_pos (show (A.length : Int) < (F.length : Int) by omega), hm, if_pos (show (A.map (wgt bc)).length < 17592186044416 by simp; omega)]; rw [w64 (n := (A.length : Int) + 1) (by omega) (by omega)]
  cases bc with
  | true => simp only [if_true]; simpa [wgt] using ih
  | false => simp only [Bool.false_eq_true, if_false]; simpa [wgt] using ih
theorem wgt_range {m : MV} (h : onem m = 0) (bc : Bool) : 0 ≤ wgt bc m ∧ wgt bc m ≤ 1000000000000 := by
 have hq := qty_range h; obtain ⟨_, _, _, _, h5, _, _⟩ := onev_zero h
 unfold wgt
 cases bc with
 | false => simp only [Bool.false_eq_true, if_false]; omega
 | true =>
  simp only [if_true]
  unfold cstv at h5
  by_cases c : m.f3 = 2 ∨ m.f3 = 3
  ·rw [if_pos c] at h5; have := eq_of_beq h5; omega
  ·rw [if_neg c] at h5
   by_cases d : m.f3 = 5
   ·rw [if_pos d] at h5; have := of_decide_eq_true h5; omega
   ·rw [if_neg d] at h5; have := of_decide_eq_true h5; omega
theorem F22.eq {l : List MV} {r : List Int} {amount value : Int} {bc : Bool} (hr : r.length ≤ 100000) : Ev (fun k => F22.f k l r amount bc value months) (landv l r amount bc value) := by
 unfold F22.f landv
 refine Ev.bind (F14.eq l) ?_
 by_cases c1 : (Checkv l).2 = 0
 rotate_left
 ·simp only [if_neg c1]; exact Ev.const _
 simp only [if_pos c1]; obtain ⟨hl, hok⟩ := (Checkv_ok l).1 c1; refine Ev.bind (F25.eq value) ?_
 by_cases c2 : dayv value = true
 rotate_left
 ·simp only [if_neg c2]; exact Ev.const _
 simp only [if_pos c2]
 by_cases c3 : amount < 1
 ·simp only [if_pos c3]; exact Ev.const _
 simp only [if_neg c3, F43.eq value (show r.length ≤ 1000000 by omega), Option.bind_some]
 by_cases c4 : recE l value [] r = 0
 rotate_left
 ·simp only [if_neg c4]; exact Ev.const _
 simp only [if_pos c4]; have hz := recE_zero c4; have hfw : (fnd l r).map (wgt bc) = wgts l bc r := by simp [fnd, wgts]
 refine F22.l0_go ?_ (fnd l r) [] _ rfl rfl (by simp; omega); rw [hfw]
 refine Ev.bind (F44.eq (a := amount) (l := wgts l bc r) (by simp; omega) (by
  intro x hx; obtain ⟨n, hn, rfl⟩ := List.mem_map.1 hx; have := wgt_range (hok.good _ (rdv_mem (l := l) (i := n - 1) (by have := hz n hn; omega) (by have := hz n hn; omega))) bc
  omega)) ?_
 by_cases c5 : shErr amount (wgts l bc r) = 0
 rotate_left
 ·simp only [if_neg c5]; exact Ev.const _
 simp only [if_pos c5]; have hsl : (shr amount (wgts l bc r)).length = r.length := by rw [shr_length]; simp
 exact F22.l1_go hl _ r (fun n hn => rdv_seq hok (hz n hn).1 (hz n hn).2.1) (shr amount (wgts l bc r)) [] [] r [] _ rfl rfl rfl hsl rfl (by omega) (Nat.le_refl _)
theorem outv_length (l : List MV) (value : Int) : ∀ (S r : List Int) (out : List MV), (outv l value out S r).1.length ≤ out.length + S.length
 | [], r, out => by simp [outv]
 | s :: S, [], out => by simp [outv]
 | s :: S, n :: r, out => by
  simp only [outv]
  split
  ·simp
  ·split
   ·have := outv_length l value S r (out ++ [⟨(l.length : Int) + (out.length : Int) + 1, value, (rdv l (n - 1)).f2, 5, 0, s, ⟨#[]⟩, n⟩])
    simp at this ⊢; omega
   ·have := outv_length l value S r out
    simp at this ⊢; omega
theorem landv_length (l : List MV) (r : List Int) (amount : Int) (bc : Bool) (value : Int) : (landv l r amount bc value).1.length ≤ r.length := by
 unfold landv
 repeat' split
 all_goals try simp
 have := outv_length l value (shr amount (wgts l bc r)) r []; rw [shr_length] at this
 simpa using this
end Go.Proofs.YtegpappenmhndaaDoor.M
end
section
namespace Go.Proofs.YtegpappenmhndaaDoor.M
open Go.RowKit Go.Proofs.YtegpappenmhndaaDoorW.PrintWords Dv
set_option linter.unusedVariables false
set_option linter.unusedSimpArgs false
theorem F70.eq {a : Int} (h : inI a) : F70.f a = some (ab a) := by
 unfold inI at h
 unfold F70.f ab
 simp only [wrap_u64]
 split
 ·congr 1; unfold wrap64; omega
 ·congr 1; omega
theorem F69.eq {x y : Int} (h0 : 0 ≤ x) (h1 : x < 18446744073709551616) (h2 : 0 ≤ y) (h3 : y < 18446744073709551616) : F69.f x y = some (x * y / 18446744073709551616, x * y % 18446744073709551616) := by
 have e : x * y = (x / 4294967296) * (y / 4294967296) * 18446744073709551616 + ((x / 4294967296) * (y % 4294967296) + (x % 4294967296) * (y / 4294967296)) * 4294967296 + (x % 4294967296) * (y % 4294967296) := by
  have h1 : x = x / 4294967296 * 4294967296 + x % 4294967296 := by omega
  have h2 : y = y / 4294967296 * 4294967296 + y % 4294967296 := by omega
  generalize x / 4294967296 = p at *; generalize y / 4294967296 = u at *; generalize x % 4294967296 = q at *; generalize y % 4294967296 = v at *; subst h1 h2; rw [Int.add_mul, Int.mul_add, Int.mul_add]; have e1 : p * 4294967296 * (u * 4294967296) = p * u * 18446744073709551616 := by rw [Int.mul_assoc p, Int.mul_left_comm 4294967296 u, ← Int.mul_assoc p]; rfl
  have e2 : p * 4294967296 * v = p * v * 4294967296 := Int.mul_right_comm _ _ _; have e3 : q * (u * 4294967296) = q * u * 4294967296 := (Int.mul_assoc _ _ _).symm; rw [e1, e2, e3]; omega
 have p1 := prod_le (x / 4294967296) (y / 4294967296) (by omega) (by omega) (by omega) (by omega); have p2 := prod_le (x / 4294967296) (y % 4294967296) (by omega) (by omega) (by omega) (by omega); have p3 := prod_le (x % 4294967296) (y / 4294967296) (by omega) (by omega) (by omega) (by omega); have p4 := prod_le (x % 4294967296) (y % 4294967296) (by omega) (by omega) (by omega) (by omega); have td : ∀ z : Int, 0 ≤ z → Int.tdiv z 4294967296 = z / 4294967296 := fun z hz => Int.tdiv_eq_ediv_of_nonneg hz; have tm : ∀ z : Int, 0 ≤ z → Int.tmod z 4294967296 = z % 4294967296 := fun z hz => Int.tmod_eq_emod_of_nonneg hz; have uw : ∀ z : Int, 0 ≤ z → z < 18446744073709551616 → IntKind.u64.wrap z = z := fun z a b => u64w a b
 unfold F69.f
 rw [td x h0, td y h2, tm x h0, tm y h2, e]; rw [uw (x / 4294967296) (by omega) (by omega), uw (y / 4294967296) (by omega) (by omega)]; generalize x / 4294967296 = a1 at *; generalize y / 4294967296 = b1 at *; generalize x % 4294967296 = a0 at *; generalize y % 4294967296 = b0 at *; clear e; rw [uw (a1 * b1) (by omega) (by omega), uw (a1 * b0) (by omega) (by omega), uw (a0 * b1) (by omega) (by omega), uw (a0 * b0) (by omega) (by omega)]; generalize a1 * b1 = P1 at *; generalize a1 * b0 = P2 at *; generalize a0 * b1 = P3 at *; generalize a0 * b0 = P4 at *; rw [td P4 (by omega), tm P4 (by omega), uw (P4 / 4294967296) (by omega) (by omega), uw (P2 + P4 / 4294967296) (by omega) (by omega)]; obtain ⟨M, hM⟩ : ∃ M, M = P2 + P4 / 4294967296 := ⟨_, rfl⟩; rw [← hM, td M (by omega), tm M (by omega), uw (M / 4294967296) (by omega) (by omega), uw (P1 + M / 4294967296) (by omega) (by omega), uw (P3 + M % 4294967296) (by omega) (by omega)]; obtain ⟨O, hO⟩ : ∃ O, O = P3 + M % 4294967296 := ⟨_, rfl⟩; rw [← hO, td O (by omega), tm O (by omega), uw (O / 4294967296) (by omega) (by omega), uw (O % 4294967296 * 4294967296) (by omega) (by omega), uw (P1 + M / 4294967296 + O / 4294967296) (by omega) (by omega), uw (O % 4294967296 * 4294967296 + P4 % 4294967296) (by omega) (by omega)]
 congr 2
 ·omega
 ·omega
theorem F71.next (i : Nat) (h : i ≤ 127) : wrap64 ((i : Int) + 1) = ((i + 1 : Nat) : Int) := by rw [w64 (by omega) (by omega)]; omega
theorem F71.go (P c : Int) (h0 : 0 ≤ P) (h1 : P < 340282366920938463463374607431768211456) (hc : 0 < c) (hc1 : c < 18446744073709551616) : ∀ (g i : Nat) (x0 x1 q0 q1 r : Int), i + g = 128 → 0 ≤ x0 → x0 < 18446744073709551616 → 0 ≤ x1 → x1 < 18446744073709551616 → 0 ≤ q0 → q0 < 18446744073709551616 → 0 ≤ q1 → q1 < 18446744073709551616 → 0 ≤ r → r < c →
  2 ^ i * P = 340282366920938463463374607431768211456 * (c * (q0 * 18446744073709551616 + q1) + r) + (x0 * 18446744073709551616 + x1) → q0 * 18446744073709551616 + q1 < 2 ^ i →
  Ev (fun k => F71.l0 k x0 x1 c q0 q1 r i) (P / c / 18446744073709551616, P / c % 18446744073709551616, P % c)
 | 0, i, x0, x1, q0, q1, r, hi, a0, a1, b0, b1, u0, u1, v0, v1, r0, r1, hW, hQ => by
  obtain rfl : i = 128 := by omega
  refine Ev.succ ?_; have g : ¬ ((128 : Nat) : Int) < 128 := by omega
  simp only [F71.l0, if_neg g]; have e : (2 : Int) ^ 128 = 340282366920938463463374607431768211456 := by decide
  rw [e] at hW hQ; generalize hE : c * (q0 * 18446744073709551616 + q1) = E at hW; have hP : P = r + c * (q0 * 18446744073709551616 + q1) := by rw [hE]; omega
  have d1 : P / c = q0 * 18446744073709551616 + q1 := by
   rw [hP, Int.add_mul_ediv_left _ _ (by omega), Int.ediv_eq_zero_of_lt r0 r1]; omega
  have d2 : P % c = r := by
   rw [hP, Int.add_mul_emod_self_left, Int.emod_eq_of_lt r0 r1]
  rw [d1, d2, show (q0 * 18446744073709551616 + q1) / 18446744073709551616 = q0 by omega, show (q0 * 18446744073709551616 + q1) % 18446744073709551616 = q1 by omega]; exact Ev.const _
 | g + 1, i, x0, x1, q0, q1, r, hi, a0, a1, b0, b1, u0, u1, v0, v1, r0, r1, hW, hQ => by
  have hi' : i ≤ 127 := by omega
  have hp : (2 : Int) ^ i ≤ 2 ^ 127 := by
   have : (2 : Nat) ^ i ≤ 2 ^ 127 := Nat.pow_le_pow_right (by decide) hi'
   exact_mod_cast this
  have e127 : (2 : Int) ^ 127 = 170141183460469231731687303715884105728 := by decide
  rw [e127] at hp; have hpow : (2 : Int) ^ (i + 1) = 2 * 2 ^ i := by rw [Int.pow_succ]; exact Int.mul_comm _ _
  have hW2 : (2 : Int) ^ (i + 1) * P = 2 * (2 ^ i * P) := by rw [hpow, Int.mul_assoc]
  generalize (2 : Int) ^ i * P = W at hW hW2; generalize (2 : Int) ^ i = B at hQ hp hpow; clear e127; have td : ∀ z : Int, 0 ≤ z → Int.tdiv z 9223372036854775808 = z / 9223372036854775808 := fun z hz => Int.tdiv_eq_ediv_of_nonneg hz; have uw : ∀ z : Int, 0 ≤ z → z < 18446744073709551616 → IntKind.u64.wrap z = z := fun z a b => u64w a b; have em : ∀ z : Int, IntKind.u64.wrap z = z % 18446744073709551616 := wrap_u64; have d0 := td x0 a0; have d1 := td x1 b0; have d2 := td q1 v0
  have n0 : IntKind.u64.wrap (IntKind.u64.wrap (2 * x0) + IntKind.u64.wrap (x1 / 9223372036854775808)) = (2 * x0) % 18446744073709551616 + x1 / 9223372036854775808 := by
   rw [em, em, em]; omega
  have n1 : IntKind.u64.wrap (2 * x1) = (2 * x1) % 18446744073709551616 := em _
  have n2 : IntKind.u64.wrap (IntKind.u64.wrap (2 * q0) + IntKind.u64.wrap (q1 / 9223372036854775808)) = 2 * q0 + q1 / 9223372036854775808 := by
   rw [em, em, em]; omega
  have n3 : IntKind.u64.wrap (2 * q1) = (2 * q1) % 18446744073709551616 := em _; have n4 : IntKind.u64.wrap (IntKind.u64.wrap (2 * q1) + 1) = (2 * q1) % 18446744073709551616 + 1 := by rw [em, em]; omega
  have n5 : IntKind.u64.wrap (IntKind.u64.wrap (2 * r) + IntKind.u64.wrap (x0 / 9223372036854775808)) = (2 * r) % 18446744073709551616 + x0 / 9223372036854775808 := by
   rw [em, em, em]; omega
  have n6 : wrap64 ((i : Int) + 1) = ((i + 1 : Nat) : Int) := F71.next i hi'; have gi : (i : Int) < 128 := Int.lt_of_le_of_lt (Int.ofNat_le.2 hi') (by decide); have hE : c * (q0 * 18446744073709551616 + q1) + c * (q0 * 18446744073709551616 + q1) = c * (2 * (q0 * 18446744073709551616 + q1)) := by rw [← Int.mul_add]; congr 1; omega
  have hE1 : c * (2 * (q0 * 18446744073709551616 + q1) + 1) = c * (2 * (q0 * 18446744073709551616 + q1)) + c := by rw [Int.mul_add, Int.mul_one]
  have f1 : (2 * q0 + q1 / 9223372036854775808) * 18446744073709551616 + (2 * q1) % 18446744073709551616 = 2 * (q0 * 18446744073709551616 + q1) := by omega
  have f2 : (2 * q0 + q1 / 9223372036854775808) * 18446744073709551616 + ((2 * q1) % 18446744073709551616 + 1) = 2 * (q0 * 18446744073709551616 + q1) + 1 := by omega
  have f3 : 2 * (x0 * 18446744073709551616 + x1) = 340282366920938463463374607431768211456 * (x0 / 9223372036854775808) + (((2 * x0) % 18446744073709551616 + x1 / 9223372036854775808) * 18446744073709551616 + (2 * x1) % 18446744073709551616) := by omega
  have S : ∀ r' : Int, r' = 2 * r + x0 / 9223372036854775808 - c → 0 ≤ r' → r' < c → Ev (fun k => F71.l0 k ((2 * x0) % 18446744073709551616 + x1 / 9223372036854775808) ((2 * x1) % 18446744073709551616) c (2 * q0 + q1 / 9223372036854775808) ((2 * q1) % 18446744073709551616 + 1) r' ((i + 1 : Nat) : Int)) (P / c / 18446744073709551616, P / c % 18446744073709551616, P % c) := by
   intro r' hr q2 q3; refine F71.go P c h0 h1 hc hc1 g (i + 1) _ _ _ _ r' (by omega) (by omega) (by omega) (by omega) (by omega) (by omega) (by omega) (by omega) (by omega) q2 q3 ?_ ?_
   ·rw [f2, hE1, hW2, hW]; generalize c * (q0 * 18446744073709551616 + q1) = E at *; generalize c * (2 * (q0 * 18446744073709551616 + q1)) = E2 at *
    omega
   ·rw [f2, hpow]; omega
  have N : ∀ r' : Int, r' = 2 * r + x0 / 9223372036854775808 → 0 ≤ r' → r' < c → Ev (fun k => F71.l0 k ((2 * x0) % 18446744073709551616 + x1 / 9223372036854775808) ((2 * x1) % 18446744073709551616) c (2 * q0 + q1 / 9223372036854775808) ((2 * q1) % 18446744073709551616) r' ((i + 1 : Nat) : Int)) (P / c / 18446744073709551616, P / c % 18446744073709551616, P % c) := by
   intro r' hr q2 q3; refine F71.go P c h0 h1 hc hc1 g (i + 1) _ _ _ _ r' (by omega) (by omega) (by omega) (by omega) (by omega) (by omega) (by omega) (by omega) (by omega) q2 q3 ?_ ?_
   ·rw [f1, hW2, hW]; generalize c * (q0 * 18446744073709551616 + q1) = E at *; generalize c * (2 * (q0 * 18446744073709551616 + q1)) = E2 at *
    omega
   ·rw [f1, hpow]; omega
  refine Ev.succ ?_; simp only [F71.l0, if_pos gi, d0, d1, d2, n0, n1, n2, n4, n5, n6]
  by_cases hb : r ≥ 9223372036854775808
  ·simp only [if_pos hb]; rw [em]; exact S _ (by omega) (by omega) (by omega)
  ·by_cases hb2 : (2 * r) % 18446744073709551616 + x0 / 9223372036854775808 ≥ c
   ·simp only [if_neg hb, if_pos hb2]; rw [em]; exact S _ (by omega) (by omega) (by omega)
   ·simp only [if_neg hb, if_neg hb2, n3]; exact N _ (by omega) (by omega) (by omega)
theorem F71.eq {P c : Int} (h0 : 0 ≤ P) (h1 : P < 340282366920938463463374607431768211456) (hc : 0 < c) (hc1 : c < 18446744073709551616) : Ev (fun k => F71.f k (P / 18446744073709551616) (P % 18446744073709551616) c) (P / c / 18446744073709551616, P / c % 18446744073709551616, P % c) :=
 F71.go P c h0 h1 hc hc1 128 0 _ _ 0 0 0 rfl (by omega) (by omega) (by omega) (by omega) (by omega) (by omega) (by omega) (by omega) (by omega) hc (by simp; omega) (by simp)
theorem F72.eq {mode : Int} {neg : Bool} {q r c : Int} (hq : 0 ≤ q) (hm : 1 ≤ mode ∧ mode ≤ 5) (h0 : 0 ≤ r) (h1 : r < c) (h2 : c < 18446744073709551616) : F72.f mode neg ((Int.tmod q 2) == 1) r c = some (awayv mode neg q r c) := by
 have e : IntKind.u64.wrap (c - r) = c - r := u64w (by omega) (by omega); have e2 : Int.tmod q 2 = q % 2 := Int.tmod_eq_emod_of_nonneg hq
 unfold F72.f awayv
 rw [e, e2]; have hmm : mode = 1 ∨ mode = 2 ∨ mode = 3 ∨ mode = 4 ∨ mode = 5 := by omega
 have hrc : (0 < r) ↔ ¬ r = 0 := by omega
 rcases hmm with rfl | rfl | rfl | rfl | rfl
 ·simp
 ·by_cases hr : r = 0 <;> simp [hr]
  omega
 ·by_cases hr : r = 0 <;> simp [hr]
  omega
 ·by_cases hr : r = 0
  ·subst hr; have x1 : ¬ (0 : Int) > c - 0 := by omega
   have x2 : ¬ (0 : Int) = c - 0 := by omega
   rw [if_neg (by decide), if_neg (by decide), if_pos rfl, if_neg x1, if_neg x2]
   simp
  ·by_cases h3 : r > c - r
   ·have h4 : c - r < r := h3
    simp [h3, hr]
   ·have h4 : ¬ c - r < r := h3
    by_cases h5 : r = c - r
    ·rw [if_neg (by decide), if_neg (by decide), if_pos rfl, if_neg h3, if_pos h5]
     simp [h4, ← h5, hr]
     by_cases h6 : q % 2 = 1 <;> simp [h6]
    ·simp [h3, h4, h5]
 ·by_cases hr : r = 0 <;> cases neg <;> simp [hr]
  omega
theorem rsignv_big {neg : Bool} {z : Int} (h : 9223372036854775808 < z) : signv neg z = (0, 4) := by
 unfold signv
 cases neg
 ·simp; omega
 ·simp; omega
theorem rnegv_eq {a b c : Int} : negv a b c = if (decide (ab a * ab b = 0)) = true then false else (((decide (a < 0)) != (decide (b < 0))) != (decide (c < 0))) := by
 unfold negv
 have e : (ab a * ab b = 0) ↔ (a * b = 0) := by
  rw [Int.mul_eq_zero, Int.mul_eq_zero, ab_zero, ab_zero]
 by_cases h : a * b = 0
 ·simp [e, h]
 ·simp [e, h]
theorem F59.j2_eq {z : Int} {neg : Bool} (h0 : 0 ≤ z) (h1 : z ≤ 18446744073709551615) : Ev (fun k => F59.j2 k z neg) (signv neg z) := by
 have J : ∀ b, Ev (fun k => F59.j3 k z neg b) (if b = true then (0, 4) else if z = 9223372036854775808 then (-9223372036854775808, 0) else if neg = true then (wrap64 (-(wrap64 z)), 0) else (wrap64 z, 0)) := by
  intro b; refine Ev.succ ?_
  cases b
  ·simp only [F59.j3, Bool.false_eq_true, if_false]
   split
   ·exact Ev.const _
   ·cases neg
    ·simp only [Bool.false_eq_true, if_false]; exact Ev.const _
    ·simp only [if_true]; exact Ev.const _
  ·simp only [F59.j3, if_true]; exact Ev.const _
 refine Ev.succ ?_
 by_cases h2 : z > 9223372036854775808
 ·simp only [F59.j2, if_pos h2]; have := J true; simp only [if_true] at this; rw [rsignv_big h2]; exact this
 ·by_cases h3 : z = 9223372036854775808
  ·simp only [F59.j2, if_neg h2, if_pos h3]; have := J (!neg); subst h3
   unfold signv
   cases neg
   ·simpa using this
   ·simpa using this
  ·simp only [F59.j2, if_neg h2, if_neg h3]; have := J false
   unfold signv
   simp only [Bool.false_eq_true, if_false, if_neg h3] at this; rw [w64 (n := z) (by omega) (by omega), w64 (n := -z) (by omega) (by omega)] at this; rw [if_neg h2, if_neg (show ¬ z ≥ 9223372036854775808 by omega)]; exact this
theorem F59.eq {a b c : Int} (mode : Int) (ha : inI a) (hb : inI b) (hc : inI c) : Ev (fun k => F59.f k a b c mode) (mdv a b c mode) := by
 unfold mdv
 by_cases hm : mode < 1 ∨ mode > 5
 ·rw [if_pos hm]
  have j : Ev (fun k => F59.j0 k a b c mode true) (0, 10) := by
   refine Ev.succ ?_; simp only [F59.j0, if_true]; exact Ev.const _
  by_cases h1 : mode < 1
  ·simp only [F59.f, if_pos h1]; exact j
  ·have h2 : mode > 5 := by omega
   simp only [F59.f, if_neg h1, decide_eq_true h2]; exact j
 rw [if_neg hm]; have h1 : ¬ mode < 1 := by omega
 have h2 : ¬ mode > 5 := by omega
 simp only [F59.f, if_neg h1, decide_eq_false h2]; refine Ev.succ ?_; simp only [F59.j0, Bool.false_eq_true, if_false]
 by_cases h3 : c = 0
 ·simp only [if_pos h3]; exact Ev.const _
 have ba := ab_bound ha; have bb := ab_bound hb; have bc := ab_bound hc; have pc := ab_pos h3; have bp := prod_ab ha hb; simp only [if_neg h3, F70.eq ha, F70.eq hb, F70.eq hc, Option.bind_some, F69.eq ba.1 (show ab a < 18446744073709551616 by omega) bb.1 (show ab b < 18446744073709551616 by omega)]; refine Ev.bind (F71.eq bp.1 (by have := bp.2; omega) pc (by omega)) ?_; have q0 : 0 ≤ ab a * ab b / ab c := Int.ediv_nonneg bp.1 (by omega); have r0 : 0 ≤ ab a * ab b % ab c := Int.emod_nonneg _ (by omega); have r1 : ab a * ab b % ab c < ab c := Int.emod_lt_of_pos _ pc
 have hneg : (((decide (a < 0)) != (decide (b < 0))) != (decide (c < 0))) = negv a b c ∨ ab a * ab b = 0 := by
  by_cases hp : ab a * ab b = 0
  ·exact .inr hp
  ·refine .inl ?_; rw [rnegv_eq]; simp [hp]
 by_cases hb : ab a * ab b / ab c > 9223372036854775808
 ·have big : signv (negv a b c) (sizev a b c mode) = (0, 4) := rsignv_big (by unfold sizev; split <;> omega); rw [big]
  have j : ∀ x y z w u, Ev (fun k => F59.j1 k x y z w u true) (0, 4) := fun x y z w u => by
   refine Ev.succ ?_; simp only [F59.j1, if_true]; exact Ev.const _
  by_cases hh : ab a * ab b / ab c / 18446744073709551616 > 0
  ·simp only [if_pos hh]; exact j _ _ _ _ _
  ·have : ab a * ab b / ab c % 18446744073709551616 > 9223372036854775808 := by omega
   simp only [if_neg hh, decide_eq_true this]; exact j _ _ _ _ _
 ·have hh : ¬ ab a * ab b / ab c / 18446744073709551616 > 0 := by omega
  have hl : ab a * ab b / ab c % 18446744073709551616 = ab a * ab b / ab c := by omega
  simp only [if_neg hh, hl, decide_eq_false hb]; refine Ev.succ ?_; have aw := F72.eq (mode := mode) (neg := ((decide (a < 0)) != (decide (b < 0))) != (decide (c < 0))) q0 (by omega) r0 r1 (show ab c < 18446744073709551616 by omega); simp only [F59.j1, Bool.false_eq_true, if_false, F70.eq hc, Option.bind_some, aw]; have uw : IntKind.u64.wrap (ab a * ab b / ab c + 1) = ab a * ab b / ab c + 1 := u64w (by omega) (by omega)
  unfold sizev
  rcases hneg with hneg | hp
  ·rw [hneg]
   split
   ·rw [uw]; exact F59.j2_eq (by omega) (by omega)
   ·rw [Int.add_zero]; exact F59.j2_eq q0 (by omega)
  ·have z1 : ∀ n, awayv mode n (ab a * ab b / ab c) (ab a * ab b % ab c) (ab c) = false := fun n => by unfold awayv; simp [hp]
   simp only [z1, Bool.false_eq_true, if_false, Int.add_zero]; have := F59.j2_eq (z := ab a * ab b / ab c) (neg := ((decide (a < 0)) != (decide (b < 0))) != (decide (c < 0))) q0 (by omega); have s0 : ∀ n, signv n (ab a * ab b / ab c) = (0, 0) := fun n => by unfold signv; rw [hp]; cases n <;> simp
   rw [s0] at this ⊢; exact this
theorem F60.eq {a b c : Int} (ha : inI a) (hb : inI b) (hc : inI c) : Ev (fun k => F60.f k a b c) (modv a b c) := by
 unfold modv F60.f
 by_cases h3 : c = 0
 ·simp only [if_pos h3]; exact Ev.const _
 have ba := ab_bound ha; have bb := ab_bound hb; have bc := ab_bound hc; have pc := ab_pos h3; have bp := prod_ab ha hb; simp only [if_neg h3, F70.eq ha, F70.eq hb, F70.eq hc, Option.bind_some, F69.eq ba.1 (show ab a < 18446744073709551616 by omega) bb.1 (show ab b < 18446744073709551616 by omega)]; refine Ev.bind (F71.eq bp.1 (by have := bp.2; omega) pc (by omega)) ?_; have r0 : 0 ≤ ab a * ab b % ab c := Int.emod_nonneg _ (by omega); have r1 : ab a * ab b % ab c < ab c := Int.emod_lt_of_pos _ pc
 have sg : a * b = if ((decide (a < 0)) != (decide (b < 0))) = true then -(ab a * ab b) else ab a * ab b := by
  unfold ab
  by_cases x : a < 0 <;> by_cases y : b < 0 <;> simp [x, y, Int.neg_mul, Int.mul_neg]
 have e1 : ∀ z : Int, 0 ≤ z → z < ab c → wrap64 z = z := fun z z0 z1 => w64 (by omega) (by omega); rw [sg]
 by_cases hz : ab a * ab b % ab c > 0
 ·simp only [if_pos hz]
  by_cases n : ((decide (a < 0)) != (decide (b < 0))) = true
  ·simp only [if_pos n]; rw [u64w (n := ab c - ab a * ab b % ab c) (by omega) (by omega), e1 (ab c - ab a * ab b % ab c) (by omega) (by omega)]; have h := Int.emod_add_mul_ediv (ab a * ab b) (ab c)
   have : -(ab a * ab b) = (ab c - ab a * ab b % ab c) + ab c * (-(ab a * ab b / ab c) - 1) := by
    rw [Int.mul_sub, Int.mul_neg]; omega
   have z := Int.emod_eq_of_lt (a := ab c - ab a * ab b % ab c) (b := ab c) (by omega) (by omega); rw [this, Int.add_mul_emod_self_left, z]; exact Ev.const _
  ·simp only [if_neg n]; rw [e1 _ r0 r1]; exact Ev.const _
 ·have hz0 : ab a * ab b % ab c = 0 := by omega
  simp only [if_neg hz]
  have z : (if ((decide (a < 0)) != (decide (b < 0))) = true then -(ab a * ab b) else ab a * ab b) % ab c = 0 := by
   split
   ·exact Int.emod_eq_zero_of_dvd (Int.dvd_neg.2 (Int.dvd_of_emod_eq_zero hz0))
   ·exact hz0
  rw [z, hz0, w64 (n := 0) (by omega) (by omega)]; exact Ev.const _
end Go.Proofs.YtegpappenmhndaaDoor.M
end
section
namespace Go.Proofs.YtegpappenmhndaaDoor.M
open Go.RowKit Go.Proofs.YtegpappenmhndaaDoorW.PrintWords Dv
set_option linter.unusedVariables false
theorem F58.go1 : ∀ (B A : List Int) (s i : Int), i = (A.length : Int) → (A ++ B).length < 1000000 → 0 ≤ s → s ≤ 1000000000000000 → (∀ x ∈ B, 0 ≤ x ∧ x ≤ 9223372036854775807) → Ev (fun k => F58.l1 k (A ++ B) s i) (sumFrom s B)
 | [], A, s, i, hi, hs, h0, h1, hB => by
  refine Ev.succ ?_; have g : ¬ i < ((A ++ []).length : Int) := by simp; omega
  simp only [F58.l1, if_neg g, sumFrom, List.sum_nil, Int.add_zero, if_neg (show ¬ s > 1000000000000000 by omega)]
  split
  ·exact Ev.const _
  ·exact Ev.const _
 | x :: B, A, s, i, hi, hs, h0, h1, hB => by
  simp only [List.length_append, List.length_cons] at hs; have g1 : 0 ≤ i := by omega
  have g2 : i < ((A ++ x :: B).length : Int) := by simp; omega
  have r := rd_at A x B i hi; have e : wrap64 (i + 1) = i + 1 := w64 (by omega) (by omega); have hx := hB x (by simp); have e2 : wrap64 (1000000000000000 - s) = 1000000000000000 - s := w64 (by omega) (by omega); have hBs := sum_nonneg B (fun y hy => (hB y (by simp [hy])).1); refine Ev.succ ?_
  by_cases hc : x > 1000000000000000 - s
  ·simp only [F58.l1, if_pos g1, if_pos g2, r, e2, if_pos hc]; have : sumFrom s (x :: B) = (0, 4) := by unfold sumFrom; rw [List.sum_cons, if_pos (by omega)]
   rw [this]; exact Ev.const _
  ·have e3 : wrap64 (s + x) = s + x := w64 (by omega) (by omega); simp only [F58.l1, if_pos g1, if_pos g2, r, e2, if_neg hc, e, e3]; have ih := F58.go1 B (A ++ [x]) (s + x) (i + 1) (by simp; omega) (by simp only [List.length_append, List.length_cons, List.length_nil]; omega) (by omega) (by omega) (fun y hy => hB y (by simp [hy])); have : sumFrom s (x :: B) = sumFrom (s + x) B := by unfold sumFrom; rw [List.sum_cons, Int.add_assoc]
   rw [this]; simpa using ih
theorem F58.go0 (L : List Int) (hL : ∀ x ∈ L, x ≤ 9223372036854775807) (hs : L.length < 1000000) : ∀ (B A : List Int) (i : Int), L = A ++ B → i = (A.length : Int) → (∀ x ∈ A, 0 ≤ x) → Ev (fun k => F58.l0 k L i) (if ∃ x ∈ B, x < 0 then (0, 2) else sumFrom 0 L)
 | [], A, i, he, hi, hA => by
  refine Ev.succ ?_; have g : ¬ i < (L.length : Int) := by subst he; simp; omega
  simp only [F58.l0, if_neg g]; have := F58.go1 L [] 0 0 rfl (by simpa using hs) (by omega) (by omega) (fun x hx => ⟨by subst he; exact hA x (by simpa using hx), hL x hx⟩)
  simpa using this
 | x :: B, A, i, he, hi, hA => by
  have hl : (L.length : Int) = A.length + B.length + 1 := by subst he; simp; omega
  have g1 : 0 ≤ i := by omega
  have g2 : i < (L.length : Int) := by omega
  have r : rd L i = x := by subst he; exact rd_at A x B i hi
  have e : wrap64 (i + 1) = i + 1 := w64 (by omega) (by omega); refine Ev.succ ?_
  by_cases hx : x < 0
  ·simp only [F58.l0, if_pos g1, if_pos g2, r, if_pos hx]; rw [if_pos ⟨x, by simp, hx⟩]; exact Ev.const _
  ·simp only [F58.l0, if_pos g1, if_pos g2, r, if_neg hx, e]
   have ih := F58.go0 L hL hs B (A ++ [x]) (i + 1) (by simp [he]) (by simp; omega) (fun y hy => by
    rcases List.mem_append.1 hy with h | h
    ·exact hA y h
    ·rw [List.mem_singleton.1 h]; omega)
   have : (∃ y ∈ x :: B, y < 0) ↔ ∃ y ∈ B, y < 0 := by simp [hx]
   simp only [this]; exact ih
theorem F46.neg (a : Int) (ha : a < 0) : ∀ (B A : List Int) (i : Int), i = (A.length : Int) → (A ++ B).length < 1000000 → (∀ v ∈ B, 0 ≤ v ∧ v ≤ 2000000000000000) → Ev (fun k => F46.l3 k a (A ++ B) i) (A ++ B.map (fun x => -x), 0)
 | [], A, i, hi, hs, hB => by
  refine Ev.succ ?_; have g : ¬ i < ((A ++ []).length : Int) := by simp; omega
  simp only [F46.l3, if_neg g]
  simpa using Ev.const _
 | x :: B, A, i, hi, hs, hB => by
  simp only [List.length_append, List.length_cons] at hs; have g1 : 0 ≤ i := by omega
  have g2 : i < ((A ++ x :: B).length : Int) := by simp; omega
  have r := rd_at A x B i hi; have hx := hB x (by simp); have e : wrap64 (i + 1) = i + 1 := w64 (by omega) (by omega); have e2 : wrap64 (-x) = -x := w64 (by omega) (by omega); refine Ev.succ ?_; simp only [F46.l3, if_pos ha, if_pos g1, if_pos g2, r, e, e2, set_at A x (-x) B i hi]; have ih := F46.neg a ha B (A ++ [-x]) (i + 1) (by simp; omega) (by simp only [List.length_append, List.length_cons, List.length_nil]; omega) (fun z hz => hB z (by simp [hz]))
  simpa using ih
theorem F46.best (a : Int) (r P R Y1 Z2 : List Int) (z : Int) (left : Int) (X : List Int × Int) (hn : r.length < 1000) (hr : ∀ x ∈ r, 0 ≤ x) (hRl : R.length = r.length) (hPl : P.length = r.length) (hZ : (Y1 ++ z :: Z2).Perm (idx r.length)) (hS : (Y1 ++ z :: Z2).Pairwise (rOrd r))
  (hR : ∀ i : Int, 0 ≤ i → i < r.length → rd R i = if i ∈ Y1 then -1 else rd r i)
  (hX : Ev (fun k => F46.l1 k a (P.set z.toNat (wrap64 (rd P z + 1))) (R.set z.toNat (-1)) (wrap64 (left - 1))) X) :
  ∀ (d : Nat) (b i : Int), i + d = r.length → 0 ≤ i → (z < i ∨ z = 0 → b = z) → (¬ (z < i ∨ z = 0) → 0 ≤ b ∧ b < z) → Ev (fun k => F46.l2 k a P R left b i) X := by
 have hz : 0 ≤ z ∧ z < r.length := (mem_idx _ _).1 (hZ.mem_iff.1 (by simp)); have nd : (Y1 ++ z :: Z2).Nodup := List.Pairwise.imp (S := fun x y => x ≠ y) (fun {x y} h e => (rOrd.tot r).irr x (by rw [← e] at h; exact h)) hS
 have hzY : z ∉ Y1 := fun h => by
  have := (List.nodup_append.1 nd).2.2 z h z (by simp); exact this rfl
 have rz : rd R z = rd r z := by rw [hR z hz.1 hz.2, if_neg hzY]
 have rz0 : 0 ≤ rd r z := hr _ (rd_mem' r z hz.1 hz.2)
 have wh : ∀ i : Int, 0 ≤ i → i < r.length → i ∈ Y1 ∨ i = z ∨ (i ∉ Y1 ∧ rOrd r z i) := fun i h0 h1 => by
  have := hZ.mem_iff.2 ((mem_idx r.length i).2 ⟨h0, h1⟩)
  rcases List.mem_append.1 this with h | h
  ·exact .inl h
  ·rcases List.mem_cons.1 h with h | h
   ·exact .inr (.inl h)
   ·refine .inr (.inr ⟨fun k => ?_, ?_⟩)
    ·exact (List.nodup_append.1 nd).2.2 i k i (by simp [h]) rfl
    ·exact (List.pairwise_cons.1 (List.pairwise_append.1 hS).2.1).1 i h
 intro d
 induction d with
 | zero =>
  intro b i hd hi h1 h2; have hb : b = z := h1 (by omega); subst hb; refine Ev.succ ?_; have g : ¬ i < (R.length : Int) := by omega
  have g2 : b < (P.length : Int) := by omega
  have g3 : b < (R.length : Int) := by omega
  simp only [F46.l2, if_neg g, if_pos hz.1, if_pos g2, if_pos g3]; exact hX
 | succ d ih =>
  intro b i hd hi h1 h2; have g : i < (R.length : Int) := by omega
  have g1 : 0 ≤ b := by
   by_cases c : z < i ∨ z = 0
   ·rw [h1 c]; exact hz.1
   ·exact (h2 c).1
  have g2 : b < (R.length : Int) := by
   by_cases c : z < i ∨ z = 0
   ·rw [h1 c]; omega
   ·have := (h2 c).2; omega
  have e : wrap64 (i + 1) = i + 1 := w64 (by omega) (by omega); refine Ev.succ ?_; simp only [F46.l2, if_pos g, if_pos hi, if_pos g1, if_pos g2, e]
  by_cases c : z < i ∨ z = 0
  ·have hb := h1 c; subst hb
   have ng : ¬ rd R i > rd R b := by
    rw [rz, hR i hi (by omega)]
    rcases wh i hi (by omega) with w | w | w
    ·rw [if_pos w]; omega
    ·subst w; rw [if_neg hzY]; omega
    ·rw [if_neg w.1]; have := w.2
     unfold rOrd at this
     omega
   simp only [if_neg ng]; exact ih b (i + 1) (by omega) (by omega) (fun _ => rfl) (fun k => by omega)
  ·have hb := h2 c
   by_cases ci : i = z
   ·subst ci
    have yg : rd R i > rd R b := by
     rw [rz, hR b hb.1 (by omega)]
     rcases wh b hb.1 (by omega) with w | w | w
     ·rw [if_pos w]; omega
     ·omega
     ·rw [if_neg w.1]; have := w.2
      unfold rOrd at this
      omega
    simp only [if_pos yg]; exact ih i (i + 1) (by omega) (by omega) (fun _ => rfl) (fun k => by omega)
   ·by_cases yg : rd R i > rd R b
    ·simp only [if_pos yg]; exact ih i (i + 1) (by omega) (by omega) (fun k => by omega) (fun k => by omega)
    ·simp only [if_neg yg]; exact ih b (i + 1) (by omega) (by omega) (fun k => by omega) (fun k => by omega)
theorem F46.pick (a : Int) (r : List Int) (X : List Int × Int) (hn : r.length < 1000) (hr : ∀ x ∈ r, 0 ≤ x) : ∀ (Y2 Y1 Z3 P R : List Int) (left : Int), R.length = r.length → P.length = r.length → (Y1 ++ Y2 ++ Z3).Perm (idx r.length) → (Y1 ++ Y2 ++ Z3).Pairwise (rOrd r) → left = (Y2.length : Int) →
  (∀ i : Int, 0 ≤ i → i < r.length → rd R i = if i ∈ Y1 then -1 else rd r i) → (∀ v ∈ P, 0 ≤ v ∧ v + Y2.length ≤ 9000000000000000000) → Ev (fun k => F46.l3 k a (inc P Y2) 0) X → Ev (fun k => F46.l1 k a P R left) X
 | [], Y1, Z3, P, R, left, hRl, hPl, hZ, hS, hl, hR, hP, hX => by
  refine Ev.succ ?_; have g : ¬ left > 0 := by simp at hl; omega
  simp only [F46.l1, if_neg g]; exact hX
 | z :: Y2, Y1, Z3, P, R, left, hRl, hPl, hZ, hS, hl, hR, hP, hX => by
  simp only [List.length_cons] at hl hP; have g : left > 0 := by omega
  have hZ' : (Y1 ++ z :: (Y2 ++ Z3)).Perm (idx r.length) := by simpa using hZ
  have hS' : (Y1 ++ z :: (Y2 ++ Z3)).Pairwise (rOrd r) := by simpa using hS
  have hz : 0 ≤ z ∧ z < r.length := (mem_idx _ _).1 (hZ'.mem_iff.1 (by simp))
  have e : wrap64 (left - 1) = left - 1 := w64 (by
   omega) (by
   have : (Y1 ++ z :: Y2 ++ Z3).length = r.length := by rw [hZ.length_eq, idx_length]
   simp only [List.length_append, List.length_cons] at this
   omega)
  have hm := hP _ (rd_mem' P z hz.1 (by omega)); have e2 : wrap64 (rd P z + 1) = rd P z + 1 := w64 (by omega) (by omega); refine Ev.succ ?_; simp only [F46.l1, if_pos g]; refine F46.best a r P R Y1 (Y2 ++ Z3) z left X hn hr hRl hPl hZ' hS' hR ?_ r.length 0 0 (by omega) (by omega) (fun k => by omega) (fun k => by omega); rw [e, e2]; refine F46.pick a r X hn hr Y2 (Y1 ++ [z]) Z3 _ _ (left - 1) (by simpa using hRl) (by simpa using hPl) (by simpa using hZ) (by simpa using hS) (by omega) (fun i h0 h1 => ?_) (fun v hv => ?_) hX
  ·rw [rd_set R z i _ hz.1 (by omega) h0, hR i h0 h1]
   by_cases c : i = z
   ·subst c; simp
   ·simp [c]
  ·rcases mem_set' hv with rfl | hv
   ·omega
   ·have := hP v hv; omega
theorem F46.go0 (a s t : Int) (h0 : 0 ≤ s) (h1 : s ≤ 1000000000000000) (h4 : 0 < t) (ht : t ≤ 1000000000000000) (X : List Int × Int) : ∀ (W2 W1 : List Int) (i left : Int), i = (W1.length : Int) → (W1 ++ W2).length ≤ 1000 → (∀ w ∈ W2, 0 ≤ w ∧ w ≤ t) → left ≤ 1000000000000000 → -1000000000000000 * i ≤ left →
  Ev (fun k => F46.l1 k a (qs s t (W1 ++ W2)) (rs s t (W1 ++ W2)) (left - (qs s t W2).sum)) X →
  Ev (fun k => F46.l0 k a (W1 ++ W2) t s (qs s t W1 ++ List.replicate W2.length 0) (rs s t W1 ++ List.replicate W2.length 0) left i) X
 | [], W1, i, left, hi, hs, hw, l1, l2, hX => by
  refine Ev.succ ?_; have g : ¬ i < ((W1 ++ []).length : Int) := by simp; omega
  simp only [F46.l0, if_neg g]
  simpa [qs, rs] using hX
 | w :: W2, W1, i, left, hi, hs, hw, l1, l2, hX => by
  simp only [List.length_append, List.length_cons] at hs; have hw0 := hw w (by simp); have g1 : 0 ≤ i := by omega
  have g2 : i < ((W1 ++ w :: W2).length : Int) := by simp; omega
  have r := rd_at W1 w W2 i hi; obtain ⟨m1, m2, m3⟩ := mdv_down h0 h1 hw0.1 hw0.2 h4; have M := F59.eq (a := s) (b := w) (c := t) 1 (by unfold inI; omega) (by unfold inI; omega) (by unfold inI; omega); have D := F60.eq (a := s) (b := w) (c := t) (by unfold inI; omega) (by unfold inI; omega) (by unfold inI; omega); rw [m1] at M; rw [modv_down h4] at D; have e : wrap64 (i + 1) = i + 1 := w64 (by omega) (by omega); have e2 : wrap64 (left - s * w / t) = left - s * w / t := w64 (by omega) (by omega); have lq : (qs s t W1).length = W1.length := by simp [qs]
  have lr : (rs s t W1).length = W1.length := by simp [rs]
  have g3 : i < ((qs s t W1 ++ List.replicate (w :: W2).length (0 : Int)).length : Int) := by simp [lq]; omega
  have g4 : i < ((rs s t W1 ++ List.replicate (w :: W2).length (0 : Int)).length : Int) := by simp [lr]; omega
  refine Ev.succ ?_; simp only [F46.l0, if_pos g1, if_pos g2, r]; refine Ev.bind M ?_; refine Ev.bind D ?_
  have s1 : (qs s t W1 ++ List.replicate (w :: W2).length (0 : Int)).set i.toNat (s * w / t) = qs s t (W1 ++ [w]) ++ List.replicate W2.length 0 := by
   rw [List.length_cons, List.replicate_succ, set_at _ _ _ _ _ (by rw [lq]; exact hi), qs_snoc]; simp
  have s2 : (rs s t W1 ++ List.replicate (w :: W2).length (0 : Int)).set i.toNat (s * w % t) = rs s t (W1 ++ [w]) ++ List.replicate W2.length 0 := by
   rw [List.length_cons, List.replicate_succ, set_at _ _ _ _ _ (by rw [lr]; exact hi), rs_snoc]; simp
  have s3 : rd (qs s t (W1 ++ [w]) ++ List.replicate W2.length 0) i = s * w / t := by
   rw [qs_snoc, List.append_assoc]; exact rd_at _ _ _ _ (by rw [lq]; exact hi)
  simp only [if_pos g3, if_pos g4, s1, s2, Option.bind_some, s3, e, e2]
  have ih := F46.go0 a s t h0 h1 h4 ht X W2 (W1 ++ [w]) (i + 1) (left - s * w / t) (by simp; omega) (by simp only [List.length_append, List.length_cons, List.length_nil]; omega) (fun z hz => hw z (by simp [hz])) (by omega) (by omega) (by
   have e5 : (qs s t (w :: W2)).sum = s * w / t + (qs s t W2).sum := by simp [qs]
   have e6 : left - s * w / t - (qs s t W2).sum = left - (qs s t (w :: W2)).sum := by omega
   rw [e6]
   simpa using hX)
  simpa using ih
theorem F46.j0_eq {a s : Int} {l : List Int} (h : Fit s l) (X : List Int × Int) (hX : Ev (fun k => F46.l3 k a (pos s l) 0) X) : Ev (fun k => F46.j0 k a l l.sum s) X := by
 have g1 : (0 : Int) ≤ (l.length : Int) := by omega
 have g2 : (l.length : Int).toNat ≤ 35184372088832 := by have := h.n; omega
 have hn := h.n; have lb := lf_bounds s l h.t0; have hl : (rk (rs s l.sum l)).length = l.length := by rw [h.rk.1.length_eq, idx_length]
 refine Ev.succ ?_; simp only [F46.j0, if_pos g1, if_pos g2]; have hrl : (rs s l.sum l).length = l.length := by simp [rs]
 have hql : (qs s l.sum l).length = l.length := by simp [qs]
 have := F46.go0 a s l.sum h.s0 h.s1 h.t0 h.t1 X l [] 0 s rfl (by simp; omega) h.w h.s1 (by have := h.s0; omega) (by
  have hk := h.rk; have he : rk (rs s l.sum l) = (rk (rs s l.sum l)).take (lf s l.sum l).toNat ++ (rk (rs s l.sum l)).drop (lf s l.sum l).toNat := (List.take_append_drop _ _).symm; refine F46.pick a (rs s l.sum l) X (by omega) (fun x hx => (rs_bounds s l.sum h.t0 l x hx).1) ((rk (rs s l.sum l)).take (lf s l.sum l).toNat) [] ((rk (rs s l.sum l)).drop (lf s l.sum l).toNat) _ _ _ rfl (by simp [qs, rs]) ?_ ?_ ?_ (fun i _ _ => by simp) (fun v hv => ?_) hX
  ·rw [List.nil_append, ← he, hrl]; exact hk.1
  ·rw [List.nil_append, ← he]; exact hk.2
  ·rw [List.length_take, hl]; show lf s l.sum l = _
   omega
  ·have := qs_bounds h.s0 h.s1 h.t0 l h.w v hv; have : ((rk (rs s l.sum l)).take (lf s l.sum l).toNat).length ≤ 200 := by simp; omega
   omega)
 simpa [qs, rs] using this
theorem F58.eq {a : Int} {l : List Int} (hl : l.length < 100000000000000) (hw : ∀ x ∈ l, x ≤ 9223372036854775807) : Ev (fun k => F58.f k a l) (if shErr a l = 0 then l.sum else 0, shErr a l) := by
 by_cases c1 : l.length > 200
 ·have c1' : (l.length : Int) > 200 := by omega
  have : shErr a l = 9 := by unfold shErr; rw [if_pos c1]
  rw [this]; simp only [F58.f, if_pos c1']; exact Ev.const _
 ·have c1' : ¬ (l.length : Int) > 200 := by omega
  have J : ∀ b, b = (decide (a > 1000000000000000 ∨ a < -1000000000000000)) → Ev (fun k => F58.j0 k l b) (if shErr a l = 0 then l.sum else 0, shErr a l) := by
   intro b hb; subst hb; refine Ev.succ ?_
   by_cases c2 : a > 1000000000000000 ∨ a < -1000000000000000
   ·have : shErr a l = 4 := by unfold shErr; rw [if_neg c1, if_pos c2]
    rw [this]; simp only [F58.j0, decide_eq_true c2, if_true]; exact Ev.const _
   ·simp only [F58.j0, decide_eq_false c2, Bool.false_eq_true, if_false]; have T := F58.go0 l hw (by omega) l [] 0 rfl rfl (by simp)
    have e : (if ∃ x ∈ l, x < 0 then ((0 : Int), (2 : Int)) else sumFrom 0 l) = (if shErr a l = 0 then l.sum else 0, shErr a l) := by
     rw [sumFrom_zero]
     unfold shErr
     rw [if_neg c1, if_neg c2]
     by_cases c3 : ∃ x ∈ l, x < 0
     ·simp [if_pos c3]
     ·simp only [if_neg c3]
      by_cases c4 : l.sum > 1000000000000000
      ·simp [if_pos c4]
      ·simp only [if_neg c4]
       by_cases c5 : l.sum = 0
       ·simp [if_pos c5]
       ·simp [if_neg c5]
    rw [e] at T; exact T
  by_cases c2 : a > 1000000000000000
  ·simp only [F58.f, if_neg c1', if_pos c2]; exact J true (by simp [c2])
  ·simp only [F58.f, if_neg c1', if_neg c2]; exact J _ (by simp [c2])
theorem F46.eq {a : Int} {l : List Int} (hl : l.length < 100000000000000) (hw : ∀ x ∈ l, x ≤ 9223372036854775807) : Ev (fun k => F46.f k a l) (if shErr a l = 0 then shr a l else [], shErr a l) := by
 unfold F46.f
 refine Ev.bind (F58.eq hl hw) ?_
 by_cases z : shErr a l = 0
 ·have F := shErr_le z; simp only [if_pos z]
  have hb : -1000000000000000 ≤ a ∧ a ≤ 1000000000000000 := by
   have := F.s0; have := F.s1
   split at F <;> omega
  unfold shr
  by_cases c6 : a < 0
  ·simp only [if_pos c6] at F ⊢; rw [w64 (n := -a) (by omega) (by omega)]; refine F46.j0_eq F _ ?_
   have hlen : ((pos (-a) l).length : Int) ≤ 200 := by
    have := F.n
    unfold pos; rw [inc_length]; simp [qs]; omega
   have := F46.neg a c6 (pos (-a) l) [] 0 rfl (by simp; omega) (pos_bounds F); rw [z]
   simpa using this
  ·simp only [if_neg c6] at F ⊢; refine F46.j0_eq F _ (Ev.succ ?_); rw [z]
   by_cases c7 : (0 : Int) < ((pos a l).length : Int)
   ·simp only [F46.l3, if_pos c7, if_neg c6]; exact Ev.const _
   ·simp only [F46.l3, if_neg c7]; exact Ev.const _
 ·simp only [if_neg z]; exact Ev.const _
end Go.Proofs.YtegpappenmhndaaDoor.M
end
section
namespace Go.Proofs.YtegpappenmhndaaDoor.M
open Go.RowKit Go.Proofs.YtegpappenmhndaaDoorW.PrintWords Go.Proofs.YtegpappenmhndaaDoorW.PrintLast
set_option linter.unusedVariables false
set_option linter.unusedSimpArgs false
theorem F23.l1_go {l : List MV} {value : Int} (hl : l.length ≤ 2000) (S r : List Int) (hn : ∀ n ∈ r, 1 ≤ n ∧ n ≤ (l.length : Int)) (hS2 : S.length < 1000000) : ∀ (SB SA rA rB : List Int) (out : List MV), SA ++ SB = S → rA ++ rB = r → SA.length = rA.length → SB.length = rB.length → out.length ≤ SA.length →
  Ev (fun k => F23.l1 k l r value S out (SA.length : Int)) (outv l value out SB rB)
 | [], SA, rA, rB, out, e1, e2, e3, e4, ho => by
  have : SA.length = S.length := by rw [← e1]; simp
  refine Ev.succ ?_; simp only [F23.l1, outv, if_neg (show ¬ (SA.length : Int) < (S.length : Int) by omega)]; exact Ev.const _
 | s :: SB, SA, rA, [], out, e1, e2, e3, e4, ho => by simp at e4
 | s :: SB, SA, rA, n :: rB, out, e1, e2, e3, e4, ho => by
  have hS : (S.length : Int) = (SA.length : Int) + (SB.length : Int) + 1 := by rw [← e1]; simp; omega
  have hr : r.length = rA.length + (rB.length + 1) := by rw [← e2]; simp
  have hs : rd S (SA.length : Int) = s := by rw [← e1]; exact rd_at SA s SB _ rfl
  have hf : rd r (SA.length : Int) = n := by rw [← e2]; exact rd_at rA n rB _ (by rw [e3])
  have h0 := hn n (by rw [← e2]; simp); have e4' : SB.length = rB.length := by simpa using e4
  refine Ev.succ ?_; simp only [F23.l1, outv, if_pos (show (SA.length : Int) < (S.length : Int) by omega), if_pos (show (0 : Int) ≤ (SA.length : Int) by omega), hs, hf]; rw [w64 (n := (SA.length : Int) + 1) (by omega) (by omega), w64 (n := n - 1) (by omega) (by omega), w64 (n := (l.length : Int) + 1) (by omega) (by omega), w64 (n := (l.length : Int) + 1 + (out.length : Int)) (by omega) (by omega), show (l.length : Int) + 1 + (out.length : Int) = (l.length : Int) + (out.length : Int) + 1 by omega]; have eS : (SA.length : Int) + 1 = ((SA ++ [s]).length : Int) := by simp
  rw [eS]
  by_cases c : s > 1000000000000
  ·simp only [if_pos c]; exact Ev.const _
  simp only [if_neg c]
  by_cases d : s > 0
  ·simp only [if_pos d, if_pos (show (SA.length : Int) < (r.length : Int) by omega), if_pos (show (0 : Int) ≤ n - 1 by omega), if_pos (show n - 1 < (l.length : Int) by omega), if_pos (show out.length < 1759218604441 by omega)]; exact F23.l1_go hl S r hn hS2 SB (SA ++ [s]) (rA ++ [n]) rB _ (by simpa using e1) (by simpa using e2) (by simp [e3]) e4' (by simp; omega)
  ·simp only [if_neg d]; exact F23.l1_go hl S r hn hS2 SB (SA ++ [s]) (rA ++ [n]) rB _ (by simpa using e1) (by simpa using e2) (by simp [e3]) e4' (by simp; omega)
theorem F23.l0_go {l : List MV} {amount value : Int} {bc : Bool} {r : List Int} {X : List MV × Int} (hl : l.length ≤ 2000) (hn : ∀ n ∈ r, 1 ≤ n ∧ n ≤ (l.length : Int)) (hr : r.length ≤ 100000)
  (hX : Ev (fun k => (F46.f k amount (wgts l bc r)).bind fun b => if b.2 = 0 then F23.l1 k l r value b.1 [] 0 else some ([], b.2)) X) : ∀ (B A : List Int), A ++ B = r →
  Ev (fun k => F23.l0 k l r amount bc value (wgts l bc A) (A.length : Int)) X
 | [], A, e => by
  obtain rfl : A = r := by simpa using e
  refine Ev.succ ?_; simp only [F23.l0, if_neg (show ¬ (A.length : Int) < (A.length : Int) by omega)]; exact hX
 | n :: B, A, e => by
  have hF : (r.length : Int) = (A.length : Int) + (B.length : Int) + 1 := by rw [← e]; simp; omega
  have hm : rd r (A.length : Int) = n := by rw [← e]; exact rd_at A n B _ rfl
  have h0 := hn n (by rw [← e]; simp); have ih := F23.l0_go hl hn hr hX B (A ++ [n]) (by simpa using e); rw [show ((A ++ [n]).length : Int) = (A.length : Int) + 1 by simp, show wgts l bc (A ++ [n]) = wgts l bc A ++ [wgt bc (rdv l (n - 1))] by simp [wgts]] at ih; refine Ev.succ ?_; simp only [F23.l0, if_pos (show (A.length : Int) < (r.length : Int) by omega), if_pos (show (0 : Int) ≤ (A.length : Int) by omega), hm]; rw [w64 (n := (A.length : Int) + 1) (by omega) (by omega), w64 (n := n - 1) (by omega) (by omega)]; simp only [if_pos (show (0 : Int) ≤ n - 1 by omega), if_pos (show n - 1 < (l.length : Int) by omega), if_pos (show (wgts l bc A).length < 17592186044416 by simp; omega)]
  cases bc with
  | true => simp only [if_true]; simpa [wgt] using ih
  | false => simp only [Bool.false_eq_true, if_false]; simpa [wgt] using ih
theorem F23.eq {l : List MV} {r : List Int} {amount value : Int} {bc : Bool} (hr : r.length ≤ 100000) (hz' : ∀ y ∈ l, y.f2.size ≤ 1000000000000000 ∧ y.f6.size ≤ 1000000000000000) : Ev (fun k => F23.f k l r amount bc value) (landv l r amount bc value) := by
 unfold F23.f landv
 refine Ev.bind (F15.eq l hz') ?_
 by_cases c1 : (Checkv l).2 = 0
 rotate_left
 ·simp only [if_neg c1]; exact Ev.const _
 simp only [if_pos c1]; obtain ⟨hl, hok⟩ := (Checkv_ok l).1 c1; simp only [F32.eq, Option.bind_some]
 by_cases c2 : dayv value = true
 rotate_left
 ·simp only [if_neg c2]; exact Ev.const _
 simp only [if_pos c2]
 by_cases c3 : amount < 1
 ·simp only [if_pos c3]; exact Ev.const _
 simp only [if_neg c3]; refine Ev.bind (F45.eq value (by omega) (by omega)) ?_
 by_cases c4 : recE l value [] r = 0
 rotate_left
 ·simp only [if_neg c4]; exact Ev.const _
 simp only [if_pos c4]; have hz := recE_zero c4; refine F23.l0_go hl (fun n hn => ⟨(hz n hn).1, (hz n hn).2.1⟩) hr ?_ r [] rfl
 refine Ev.bind (F46.eq (a := amount) (l := wgts l bc r) (by simp; omega) (by
  intro x hx; obtain ⟨n, hn, rfl⟩ := List.mem_map.1 hx; have := wgt_range (hok.good _ (rdv_mem (l := l) (i := n - 1) (by have := hz n hn; omega) (by have := hz n hn; omega))) bc
  omega)) ?_
 by_cases c5 : shErr amount (wgts l bc r) = 0
 rotate_left
 ·simp only [if_neg c5]; exact Ev.const _
 simp only [if_pos c5]; have hsl : (shr amount (wgts l bc r)).length = r.length := by rw [shr_length]; simp
 exact F23.l1_go hl _ r (fun n hn => ⟨(hz n hn).1, (hz n hn).2.1⟩) (by omega) (shr amount (wgts l bc r)) [] [] r [] rfl rfl rfl hsl (Nat.le_refl _)
end Go.Proofs.YtegpappenmhndaaDoor.M
end
section
namespace Go.Proofs.YtegpappenmhndaaDoor.M
open Go.RowKit Go.Proofs.YtegpappenmhndaaDoorW.PrintWords Go.Proofs.YtegpappenmhndaaDoorW.PrintLast Go.Proofs.YtegpappenmhndaaDoorW.PrintMore
attribute [local go_sem] max2_int min2_int max_two min_two max_three min_three max_four min_four
set_option linter.unusedVariables false
set_option linter.unusedSimpArgs false
def gtm (m y : Mv) : Bool := decide (m.f1 < y.f1) || (y.f1 == m.f1 && decide (m.f0 < y.f0))
def refpos (p : Nat → Bool) : Nat → Nat
 | 0 => 0
 | k + 1 => if p k = true then refpos p k else k + 1
theorem refpos_le (p : Nat → Bool) : ∀ n, refpos p n ≤ n
 | 0 => Nat.le_refl _
 | n + 1 => by
  unfold refpos
  have := refpos_le p n
  split <;> omega
def insr (o : List Mv) (m : Mv) : List Mv := o.take (refpos (fun i => gtm m (mvAt o i)) o.length) ++ m :: o.drop (refpos (fun i => gtm m (mvAt o i)) o.length)
def F18.f (l0 : List Mv) : Option (List Mv) := if l0.length ≤ 1000000 then some (l0.foldl insr []) else none
theorem insr_length (m : Mv) (l : List Mv) : (insr l m).length = l.length + 1 := by
 unfold insr
 rw [List.length_append, List.length_cons, List.length_take, List.length_drop]
 omega
theorem insr_pos {m : Mv} {o : List Mv} {pos : Nat} (h : refpos (fun i => gtm m (mvAt o i)) o.length = pos) : insr o m = o.take pos ++ m :: o.drop pos := by
 unfold insr
 rw [h]
theorem reads_below {w w' : World} {A : Option Addr} {n : Nat} {xs : List Mv} (h : Kd.C k23 w A n xs) (hb : Below w.heap.size w w') : ReadsRow (k23.K w) k23.sz w' A n xs := by
 obtain ⟨h1, h2, h3⟩ := h; refine ⟨h1, h2, fun hp => ?_⟩; obtain ⟨ad, e, hc⟩ := h3 hp; refine ⟨ad, e, fun j p hj => ?_⟩; obtain ⟨c, hcl, hk, hcc⟩ := hc j p hj; exact ⟨c, hcl, hk, fun i u hu => (hb.cell (World.block_lt_of_cell? w _ (hcc i u hu))).trans (hcc i u hu)⟩
theorem reads_box {w : World} {b : Nat} {m : Mv} (h : w.heap[b]? = some (.cells #[.int .i64 m.f0, .int .i64 m.f1, .string m.f2, .int .i64 m.f3, .int .i64 m.f4, .int .i64 m.f5, .string m.f6, .int .i64 m.f7] 23 (0, 0))) : ReadsRow (k23.K w) k23.sz w (some ⟨b, 0, none⟩) 1 [m] := by
 refine ⟨rfl, by omega, fun _ => ⟨_, rfl, fun j p hj => ?_⟩⟩; have hj0 : j = 0 := by have := (List.getElem?_eq_some_iff.1 hj).1; simpa using this
 subst hj0; obtain rfl : m = p := by simpa using hj
 refine ⟨_, rfl, mv_K w m, fun i u hu => ?_⟩; rw [Addr.add_lit]; refine (blk_cell h _).trans ?_
 simpa using hu
theorem nameA {P : Program} {md : Region.Mode} {ops : Array Oper} {Q : Exit → Act → World → Prop} {S : World → Prop} {ds : List Nat} {fuel : Nat} {l : Array Bool} {a : Act} {w : World} (h : ∀ a0, a = a0 → wpAnyLast P md ops Q S ds fuel l a0 w) : wpAnyLast P md ops Q S ds fuel l a w := h a rfl
set_option maxHeartbeats 8000000 in
set_option maxRecDepth 100000 in
theorem F18.calls (A0 : Option Addr) (c0 : Nat) (l0 : List Mv) (r : List Mv) (w : World) (hr0 : Kd.C k23 w A0 l0.length l0) (hc0 : l0.length ≤ c0) (h : F18.f l0 = some r) :
  Calls Tryd.prog 18 #[.slice A0 l0.length c0] w fun e w' => ∃ v0_ : Value, e = .returned v0_ ∧ Kd.R k23 23 w' w.heap.size (fun _ => True) v0_ r ∧ Below w.heap.size w w' := by
 have HR0 := Aside0.mk hr0; have HC0 := Aside0.mk hc0; clear hr0 hc0
 unfold F18.f at h
 by_cases cN : l0.length ≤ 1000000
 rotate_left
 ·rw [if_neg cN] at h; cases h
 rw [if_pos cN] at h; have HL := Aside0.mk (Option.some.inj h); have HN := Aside0.mk cN; clear h cN; have HB := Aside0.mk (Below.refl w.heap.size w); go_enter Tryd.func18, Tryd.ntmps18
 go_wp2
 go_loopg [3, 4] l0.length (fun kq v3 v4 w' => ∃ (j : Nat) (o : List Mv), v4 = .int .i64 (j : Int) ∧ Aside0 (j + kq = l0.length) ∧ Aside0 ((l0.drop j).foldl insr o = r) ∧ Aside0 (o.length = j) ∧ Aside0 (Kd.R k23 23 w' w.heap.size (fun _ => True) v3 o) ∧ Aside0 (Below w.heap.size w w'))
 case atStart => exact ⟨0, [], rfl, ⟨by omega⟩, HL, ⟨rfl⟩, ⟨Kd.R_nil _ _ _ _ _⟩, HB⟩
 case round =>
  clear HL HB; obtain ⟨j, o, rfl, HJ, H, HO1, HO, HB⟩ := hrel
  cases gk with
  | zero =>
   have hj0 : l0.drop j = [] := List.drop_eq_nil_of_le (by have := HJ.out; omega); have H1 := H.out; rw [hj0] at H1; simp only [List.foldl_nil] at H1; subst H1; have hjb : decide ((j : Int) < (l0.length : Int)) = false := decide_eq_false (by have := HJ.out; omega); have hjn : ¬ j < l0.length := by have := HJ.out; omega
   have hjd : decide (j < l0.length) = false := decide_eq_false hjn; clear hj0
   go_wp2
   go_ret
   exact ⟨u3, rfl, HO.out, HB.out⟩
  | succ k1 =>
   have hj : j < l0.length := by have := HJ.out; omega
   have hjb : decide ((j : Int) < (l0.length : Int)) = true := decide_eq_true (by omega); have hjd : decide (j < l0.length) = true := decide_eq_true hj; have hj2 : (j : Int) + 1 ≤ 1000001 := by have := HN.out; omega
   have p1 : 0 ≤ (j : Int) := by omega
   have qj : (j : Int) < (l0.length : Int) := by omega
   have HMC := Aside0.mk (at_T23 HR0.out (j : Int) p1 qj); have H1 := H.out; clear H; rw [drop_mv hj] at H1; simp only [List.foldl_cons] at H1; obtain ⟨m, hm⟩ : ∃ m, rd_T23 l0 (j : Int) = m := ⟨_, rfl⟩; rw [hm] at H1 HMC; clear hm hj; replace p1 := eq_true p1; replace qj := eq_true qj; have H' := Aside0.mk H1; clear H1; obtain ⟨A2, c2, rfl, hcc, hC⟩ := Kd.R_reads HO.out; have HCC := Aside0.mk hcc; have HOn : Aside0 (o.length ≤ 1000000) := ⟨by have := HO1.out; have := HN.out; omega⟩; have HCo := Aside0.mk hC; obtain ⟨A0', rfl⟩ : ∃ ad, A0 = some ad := by obtain ⟨ad, e, _⟩ := HMC.out; exact ⟨ad, e⟩
   clear hcc hC; obtain ⟨pos, hpos⟩ : ∃ q, refpos (fun i => gtm m (mvAt o i)) o.length = q := ⟨_, rfl⟩; have HP := Aside0.mk hpos; have HP0 := Aside0.mk hpos; clear hpos
   go_upto_block 2 with (fail)
   go_cut [5] (fun v5 wc => v5 = .int .i64 (pos : Int) ∧ Aside0 (Kd.C k23 wc A2 o.length o) ∧ Aside0 (Below w.heap.size w wc))
   case first =>
    go_wp2
    go_loopg [5] o.length (fun kq v5 w' => v5 = .int .i64 (kq : Int) ∧ Aside0 (kq ≤ o.length) ∧ Aside0 (refpos (fun i => gtm m (mvAt o i)) kq = pos) ∧ Aside0 (Kd.C k23 w' A2 o.length o) ∧ Aside0 (Below w.heap.size w w'))
    case atStart => exact ⟨rfl, ⟨Nat.le_refl _⟩, HP, HCo, HB⟩
    case round =>
     clear HCo HB HO; obtain ⟨rfl, HK, HPk, HCo, HB⟩ := hrel; obtain ⟨am, e1, hi0, hi1, hi2, hi3, hi4, hi5, hi6, hi7⟩ := HMC.out
     cases e1
     simp only [Int.toNat_natCast] at hi0 hi1 hi2 hi3 hi4 hi5 hi6 hi7; replace hi0 := (HB.out.cell (World.block_lt_of_cell? w _ hi0)).trans hi0; replace hi1 := (HB.out.cell (World.block_lt_of_cell? w _ hi1)).trans hi1; replace hi2 := (HB.out.cell (World.block_lt_of_cell? w _ hi2)).trans hi2; replace hi3 := (HB.out.cell (World.block_lt_of_cell? w _ hi3)).trans hi3; replace hi4 := (HB.out.cell (World.block_lt_of_cell? w _ hi4)).trans hi4; replace hi5 := (HB.out.cell (World.block_lt_of_cell? w _ hi5)).trans hi5; replace hi6 := (HB.out.cell (World.block_lt_of_cell? w _ hi6)).trans hi6; replace hi7 := (HB.out.cell (World.block_lt_of_cell? w _ hi7)).trans hi7
     by_cases cx : ∃ k2, gk = k2 + 1 ∧ gtm m (mvAt o k2) = true
     ·obtain ⟨k2, rfl, cg⟩ := cx; have HP2 : Aside0 (refpos (fun i => gtm m (mvAt o i)) k2 = pos) := ⟨by have h1 := HPk.out; simpa [refpos, cg] using h1⟩; have hg0 : decide (0 < (k2 : Int) + 1) = true := decide_eq_true (by omega); have hg1 : (0 : Int) < (k2 : Int) + 1 := by omega
      have he : (k2 : Int) + 1 - 1 = (k2 : Int) := by omega
      have q0 : 0 ≤ (k2 : Int) := by omega
      have q1 : (k2 : Int) < (o.length : Int) := by have := HK.out; omega
      have q2 : (k2 : Int) + 1 ≤ 1000001 := by have := HK.out; have := HOn.out; omega
      obtain ⟨y, hy⟩ : ∃ y, mvAt o k2 = y := ⟨_, rfl⟩; rw [hy] at cg; obtain ⟨ay, ey, hy0, hy1, hy2, hy3, hy4, hy5, hy6, hy7⟩ := at_T23 HCo.out (k2 : Int) q0 q1
      cases ey
      simp only [Int.toNat_natCast] at hy0 hy1 hy2 hy3 hy4 hy5 hy6 hy7; rw [show rd_T23 o (k2 : Int) = y from hy] at hy0 hy1 hy2 hy3 hy4 hy5 hy6 hy7; clear hy; replace q0 := eq_true q0; replace q1 := eq_true q1
      unfold gtm at cg
      by_cases cy : m.f1 < y.f1
      ·have cyb : decide (m.f1 < y.f1) = true := decide_eq_true cy; clear cg
       go_wp2
       repeat (go_quiet (fail); try go_wp2)
       go_roundg k2
       case measure => omega
       case rel => exact ⟨by go_num, ⟨by have := HK.out; omega⟩, HP2, ⟨HCo.out⟩, ⟨pw_below_drewN HB.out _⟩⟩
      ·have cyb : decide (m.f1 < y.f1) = false := decide_eq_false cy; rw [cyb, Bool.false_or, Bool.and_eq_true] at cg; obtain ⟨ce, cl⟩ := cg; clear cy
       go_wp2
       repeat (go_quiet (fail); try go_wp2)
       go_roundg k2
       case measure => omega
       case rel => exact ⟨by go_num, ⟨by have := HK.out; omega⟩, HP2, ⟨HCo.out⟩, ⟨pw_below_drewN HB.out _⟩⟩
     ·have hpk : pos = gk := by
       have h1 := HPk.out
       cases gk with
       | zero => exact h1.symm
       | succ k2 =>
        have hf : gtm m (mvAt o k2) = false := by
         cases hc : gtm m (mvAt o k2) with
         | false => rfl
         | true => exact absurd ⟨k2, rfl, hc⟩ cx
        simpa [refpos, hf] using h1.symm
      subst hpk
      by_cases cz : pos = 0
      ·have hg0 : decide (0 < (pos : Int)) = false := decide_eq_false (by omega); have hg1 : ¬ (0 : Int) < (pos : Int) := by omega
       have hg2 : decide (0 < pos) = false := decide_eq_false (by omega); clear cz cx
       go_wp2
       repeat (go_quiet (fail); try go_wp2)
       go_meet
       case rel => exact ⟨rfl, ⟨HCo.out⟩, ⟨pw_below_drewN HB.out _⟩⟩
      ·obtain ⟨k2, hk2⟩ : ∃ k2, pos = k2 + 1 := ⟨pos - 1, by omega⟩
       have hf : gtm m (mvAt o k2) = false := by
        cases hc : gtm m (mvAt o k2) with
        | false => rfl
        | true => exact absurd ⟨k2, hk2, hc⟩ cx
       have hg0 : decide (0 < (pos : Int)) = true := decide_eq_true (by omega); have hg1 : (0 : Int) < (pos : Int) := by omega
       have hg2 : decide (0 < pos) = true := decide_eq_true (by omega); have he : (pos : Int) - 1 = (k2 : Int) := by omega
       have q0 : 0 ≤ (k2 : Int) := by omega
       have q1 : (k2 : Int) < (o.length : Int) := by have := HK.out; omega
       have q2 : (pos : Int) ≤ 1000001 := by have := HK.out; have := HOn.out; omega
       obtain ⟨y, hy⟩ : ∃ y, mvAt o k2 = y := ⟨_, rfl⟩; rw [hy] at hf; obtain ⟨ay, ey, hy0, hy1, hy2, hy3, hy4, hy5, hy6, hy7⟩ := at_T23 HCo.out (k2 : Int) q0 q1
       cases ey
       simp only [Int.toNat_natCast] at hy0 hy1 hy2 hy3 hy4 hy5 hy6 hy7; rw [show rd_T23 o (k2 : Int) = y from hy] at hy0 hy1 hy2 hy3 hy4 hy5 hy6 hy7; clear hy; replace q0 := eq_true q0; replace q1 := eq_true q1; clear cx cz hk2
       unfold gtm at hf
       rw [Bool.or_eq_false_iff] at hf; obtain ⟨hf1, hf2⟩ := hf
       by_cases ce : y.f1 = m.f1
       ·have ceb : (y.f1 == m.f1) = true := beq_iff_eq.mpr ce; rw [ceb, Bool.true_and] at hf2; clear ce
        go_wp2
        repeat (go_quiet (fail); try go_wp2)
        go_meet
        case rel => exact ⟨rfl, ⟨HCo.out⟩, ⟨pw_below_drewN HB.out _⟩⟩
       ·have ceb : (y.f1 == m.f1) = false := beq_eq_false_iff_ne.mpr ce; clear ce hf2
        go_wp2
        repeat (go_quiet (fail); try go_wp2)
        go_meet
        case rel => exact ⟨rfl, ⟨HCo.out⟩, ⟨pw_below_drewN HB.out _⟩⟩
   case rest =>
    have HPo := Aside0.mk (show refpos (fun i => gtm m (mvAt o i)) o.length = pos from HP0.out); have HK : Aside0 (pos ≤ o.length) := ⟨by rw [← HP0.out]; exact refpos_le _ _⟩; clear HCo HB HO HP; obtain ⟨rfl, HCo, HB⟩ := hcut; obtain ⟨am, e1, hi0, hi1, hi2, hi3, hi4, hi5, hi6, hi7⟩ := HMC.out
    cases e1
    simp only [Int.toNat_natCast] at hi0 hi1 hi2 hi3 hi4 hi5 hi6 hi7; replace hi0 := (HB.out.cell (World.block_lt_of_cell? w _ hi0)).trans hi0; replace hi1 := (HB.out.cell (World.block_lt_of_cell? w _ hi1)).trans hi1; replace hi2 := (HB.out.cell (World.block_lt_of_cell? w _ hi2)).trans hi2; replace hi3 := (HB.out.cell (World.block_lt_of_cell? w _ hi3)).trans hi3; replace hi4 := (HB.out.cell (World.block_lt_of_cell? w _ hi4)).trans hi4; replace hi5 := (HB.out.cell (World.block_lt_of_cell? w _ hi5)).trans hi5; replace hi6 := (HB.out.cell (World.block_lt_of_cell? w _ hi6)).trans hi6; replace hi7 := (HB.out.cell (World.block_lt_of_cell? w _ hi7)).trans hi7
    go_wp2
    refine nameW ?_; intro W hW; have HBW : Aside0 (Below w.heap.size w W) := ⟨by rw [← hW]; exact HB.out⟩; have HCoW : Aside0 (Kd.C k23 W A2 o.length o) := ⟨by rw [← hW]; exact HCo.out⟩; have hj0 : W.cell? (A0'.add (j * 8)) = some (.int .i64 m.f0) := by rw [← hW]; exact hi0
    have hj1 : W.cell? ⟨(A0'.add (j * 8)).block, (A0'.add (j * 8)).off + 1, none⟩ = some (.int .i64 m.f1) := by rw [← hW]; exact hi1
    have hj2 : W.cell? ⟨(A0'.add (j * 8)).block, (A0'.add (j * 8)).off + 2, none⟩ = some (.string m.f2) := by rw [← hW]; exact hi2
    have hj3 : W.cell? ⟨(A0'.add (j * 8)).block, (A0'.add (j * 8)).off + 3, none⟩ = some (.int .i64 m.f3) := by rw [← hW]; exact hi3
    have hj4 : W.cell? ⟨(A0'.add (j * 8)).block, (A0'.add (j * 8)).off + 4, none⟩ = some (.int .i64 m.f4) := by rw [← hW]; exact hi4
    have hj5 : W.cell? ⟨(A0'.add (j * 8)).block, (A0'.add (j * 8)).off + 5, none⟩ = some (.int .i64 m.f5) := by rw [← hW]; exact hi5
    have hj6 : W.cell? ⟨(A0'.add (j * 8)).block, (A0'.add (j * 8)).off + 6, none⟩ = some (.string m.f6) := by rw [← hW]; exact hi6
    have hj7 : W.cell? ⟨(A0'.add (j * 8)).block, (A0'.add (j * 8)).off + 7, none⟩ = some (.int .i64 m.f7) := by rw [← hW]; exact hi7
    clear hi0 hi1 hi2 hi3 hi4 hi5 hi6 hi7 hW; have hn1 : pos ≤ o.length := HK.out; have hn2 : pos ≤ c2 := Nat.le_trans HK.out HCC.out; have hno : (o.length : Int) ≤ 1000000 := by have := HOn.out; omega
    have htl : (o.take pos).length = pos := by rw [List.length_take]; omega
    have hdl : (o.drop pos).length = o.length - pos := List.length_drop; have HCt := Aside0.mk (Kd.C_take HCoW.out hn1); have HCd := Aside0.mk (Kd.C_drop (m := pos) (c := c2) HCoW.out hn1 HCC.out); refine start_ (n := 16) (S := fun w' => Below W.heap.size W w') (ds := []) (bq 16 0) (by kernel_rfl) rfl rfl (below_drew (Below.refl W.heap.size W)) (fun hHeld => ?_); refine pure_ (i := 1) (N := some 61) (v := ?_) (a' := ?_) (bq 16 2) rfl rfl (by kernel_rfl) (fun _ _ _ h => h) (Or.inl ⟨by rfl, ?_⟩) ?_ ?_; rotate_left
    ·intro w'; go_simp; with_reducible rfl
    rotate_left
    ·exact cbb2_0
    refine pure_ (i := 2) (N := some 62) (v := ?_) (a' := ?_) (bq 16 6) rfl rfl (by kernel_rfl) (fun _ _ _ h => h) (Or.inl ⟨by rfl, ?_⟩) ?_ ?_; rotate_left
    ·intro w'; go_simp; with_reducible rfl
    rotate_left
    ·exact cbb2_0
    refine pure_ (i := 3) (N := some 63) (v := ?_) (a' := ?_) (bq 16 14) rfl rfl (by kernel_rfl) (fun _ _ _ h => h) (Or.inl ⟨by rfl, ?_⟩) ?_ ?_; rotate_left
    ·intro w'; go_simp; with_reducible rfl
    rotate_left
    ·exact cbb2_0
    refine pure_ (i := 5) (N := some 65) (v := ?_) (a' := ?_) (bq 16 46) rfl rfl (by kernel_rfl) (fun _ _ _ h => h) (Or.inl ⟨by rfl, ?_⟩) ?_ ?_; rotate_left
    ·intro w'; go_simp; with_reducible rfl
    rotate_left
    ·exact cbb2_0
    refine pure_ (i := 6) (N := some 66) (v := ?_) (a' := ?_) (bq 16 110) rfl rfl (by kernel_rfl) (fun _ _ _ h => h) (Or.inl ⟨by rfl, ?_⟩) ?_ ?_; rotate_left
    ·intro w'; go_simp; with_reducible rfl
    rotate_left
    ·exact cbb2_0
    refine pure_ (i := 7) (N := some 67) (v := ?_) (a' := ?_) (bq 16 238) rfl rfl (by kernel_rfl) (fun _ _ _ h => h) (Or.inl ⟨by rfl, ?_⟩) ?_ ?_; rotate_left
    ·intro w'; go_simp; with_reducible rfl
    rotate_left
    ·exact cbb2_0
    refine take_ (i := 8) (N := some 68) (v := ?_) (a' := ?_) (bq 16 494) rfl rfl (by kernel_rfl) (fun _ _ _ h => h) (Or.inl ⟨by rfl, ?_⟩) hHeld ?_ ?_; rotate_left
    ·rintro w' s0; have k0 := (s0.cell (World.block_lt_of_cell? W _ hj0)).trans hj0; have k1 := (s0.cell (World.block_lt_of_cell? W _ hj1)).trans hj1; have k2 := (s0.cell (World.block_lt_of_cell? W _ hj2)).trans hj2; have k3 := (s0.cell (World.block_lt_of_cell? W _ hj3)).trans hj3; have k4 := (s0.cell (World.block_lt_of_cell? W _ hj4)).trans hj4; have k5 := (s0.cell (World.block_lt_of_cell? W _ hj5)).trans hj5; have k6 := (s0.cell (World.block_lt_of_cell? W _ hj6)).trans hj6; have k7 := (s0.cell (World.block_lt_of_cell? W _ hj7)).trans hj7; go_simp; with_reducible rfl
    rotate_left
    ·exact cbb2_0
    refine pure_ (i := 11) (N := some 71) (v := ?_) (a' := ?_) (bq 16 2542) rfl rfl (by kernel_rfl) (fun _ _ _ h => h) (Or.inl ⟨by rfl, ?_⟩) ?_ ?_; rotate_left
    ·intro w'; go_simp; with_reducible rfl
    rotate_left
    ·exact cbb2_0
    refine pure_ (i := 12) (N := some 72) (v := ?_) (a' := ?_) (bq 16 6638) rfl rfl (by kernel_rfl) (fun _ _ _ h => h) (Or.inl ⟨by rfl, ?_⟩) ?_ ?_; rotate_left
    ·intro w'; go_simp; with_reducible rfl
    rotate_left
    ·exact cbb2_0
    refine pure_ (i := 13) (N := some 73) (v := ?_) (a' := ?_) (bq 16 14830) rfl rfl (by kernel_rfl) (fun _ _ _ h => h) (Or.inl ⟨by rfl, ?_⟩) ?_ ?_; rotate_left
    ·intro w'; go_simp; with_reducible rfl
    rotate_left
    ·exact cbb2_0
    have HS := Aside0.mk hHeld; generalize W.drew = w0 at hHeld HS ⊢; refine nameA ?_; intro a0 ha0; refine join_ (σ := Value × Value × Nat) 3 (bq 16 15359) (fun (s : Value × Value × Nat) => [(60, s.1), (64, s.2.1), (69, .slice (some ⟨s.2.2, 0, none⟩) 1 1)]) (fun (s : Value × Value × Nat) w' => k23.R 23 w' W.heap.size (fun k => k ≠ s.2.2) s.2.1 (o.take pos) ∧ w'.heap[s.2.2]? = some (.cells #[.int .i64 m.f0, .int .i64 m.f1, .string m.f2, .int .i64 m.f3, .int .i64 m.f4, .int .i64 m.f5, .string m.f6, .int .i64 m.f7] 23 (0, 0)) ∧ W.heap.size ≤ s.2.2 ∧ Below W.heap.size W w') ?_ ?_; rotate_left
    ·intro hj; rw [← ha0]; refine two_ (i := 0) (j := 9) (Ni := some 60) (Nj := some 69) (bq 16 14831) (bq 16 15342) rfl rfl rfl rfl (by kernel_rfl) (by decide) (by decide) (fun K hK => ?_) (fun K hK => ?_)
     ·-- the literal first
      refine Kd.R_lit_step k23 (w0 := W) W.heap.size 23 (by rfl) (N := 60) rfl (xs := []) (inner := []) (okp := fun _ => False) (ok := (fun _ => True)) pla4_0 ⟨rfl, fun j q hq => by simp at hq⟩ (fun _ hk => hk.elim) trivial HS.out HS.out.size (by simp) ?_; intro v60 w60 ho hb hg hat; refine hK.out _ _ hb (fun _ => ?_); clear hK K; have H60 := Aside0.mk ho; have HS := Aside0.mk hb; clear ho hb hg hat; refine norm_ (a' := ?_) ?_ ?_; rotate_left
      ·show Act.put _ (some 60) _ = _; simp only [Act.put, List.setIfInBounds_toArray, List.set_cons_zero, List.set_cons_succ, i64_w, i32_w]
       rfl
      refine two_ (i := 4) (j := 9) (Ni := some 64) (Nj := some 69) (bq 16 14847) (bq 16 15343) rfl rfl rfl rfl (by kernel_rfl) (by decide) (by decide) (fun K hK => ?_) (fun K hK => ?_)
      ·refine Kd.R_append_rows_step k23 (w0 := W) (Rr := k23.K W) W.heap.size (by rfl) (.tmp 60) (.tmp 63) 25 23 (.agg #[(.int .i64 0), (.int .i64 0), (.string ⟨#[]⟩), (.int .i64 0), (.int .i64 0), (.int .i64 0), (.string ⟨#[]⟩), (.int .i64 0)]) 80 rfl Tryd.underlying25 info23 rfl (by decide) (by omega) v60 [] (o.take pos) A2 (o.take pos).length c2 (fun _ => True) (fun _ => False) rfl (by rw [htl]; rfl) H60.out ?hR (fun y cs hy => mv_flat _ _ _ _ _ (k23.K_below HS.out hy)) (fun _ hk => hk.elim) (fun _ _ => trivial) HS.out HS.out.size (by simp only [List.length_nil]; rw [htl]; omega) ?_
       case hR => exact reads_below HCt.out HS.out
       intro v64 w64 ho hb hg hat; refine hK.out _ _ hb (fun _ => ?_); clear hK K; have H64 := Aside0.mk ho; have HS := Aside0.mk hb; clear ho hb hg hat; refine norm_ (a' := ?_) ?_ ?_; rotate_left
       ·show Act.put _ (some 64) _ = _; simp only [Act.put, List.setIfInBounds_toArray, List.set_cons_zero, List.set_cons_succ, i64_w, i32_w]
        rfl
       refine one_ (i := 9) (N := some 69) (bq 16 15359) rfl rfl (by kernel_rfl) (by decide) (fun K hK => ?_); refine value_ (w1 := w64.alloc (.cells #[.int .i64 m.f0, .int .i64 m.f1, .string m.f2, .int .i64 m.f3, .int .i64 m.f4, .int .i64 m.f5, .string m.f6, .int .i64 m.f7] 23)) (v := .slice (some ⟨w64.heap.size, 0, none⟩) 1 1) (by rfl) rfl pla4_0 ?_; refine hK.out _ _ (HS.out.alloc HS.out.size _) (fun _ => ?_); clear hK K; have HS9 := Aside0.mk (HS.out.alloc HS.out.size (.cells #[.int .i64 m.f0, .int .i64 m.f1, .string m.f2, .int .i64 m.f3, .int .i64 m.f4, .int .i64 m.f5, .string m.f6, .int .i64 m.f7] 23)); refine norm_ (a' := putAll a0 ((fun (s : Value × Value × Nat) => [(60, s.1), (64, s.2.1), (69, .slice (some ⟨s.2.2, 0, none⟩) 1 1)]) (v60, v64, w64.heap.size))) (by rw [← ha0]; rfl) (hj (v60, v64, w64.heap.size) _ ⟨?_, blk_new w64 _, HS.out.size, HS9.out⟩); exact Kd.R_alloc (Kd.R_mono (ok' := fun k => k ≠ w64.heap.size) (Kd.R_bound H64.out) (fun k hk e => by have := hk.2.2.1; omega)) _
      ·refine value_ (w1 := w60.alloc (.cells #[.int .i64 m.f0, .int .i64 m.f1, .string m.f2, .int .i64 m.f3, .int .i64 m.f4, .int .i64 m.f5, .string m.f6, .int .i64 m.f7] 23)) (v := .slice (some ⟨w60.heap.size, 0, none⟩) 1 1) (by rfl) rfl pla4_0 ?_; refine hK.out _ _ (HS.out.alloc HS.out.size _) (fun _ => ?_); clear hK K; have HB9 := Aside0.mk (blk_new w60 (.cells #[.int .i64 m.f0, .int .i64 m.f1, .string m.f2, .int .i64 m.f3, .int .i64 m.f4, .int .i64 m.f5, .string m.f6, .int .i64 m.f7] 23)); have HS9 := Aside0.mk (HS.out.alloc HS.out.size (.cells #[.int .i64 m.f0, .int .i64 m.f1, .string m.f2, .int .i64 m.f3, .int .i64 m.f4, .int .i64 m.f5, .string m.f6, .int .i64 m.f7] 23)); have H60' := Aside0.mk (Kd.R_alloc (Kd.R_mono (ok' := fun k => k ≠ w60.heap.size) (Kd.R_bound H60.out) (fun k hk e => by have := hk.2.2.1; omega)) (.cells #[.int .i64 m.f0, .int .i64 m.f1, .string m.f2, .int .i64 m.f3, .int .i64 m.f4, .int .i64 m.f5, .string m.f6, .int .i64 m.f7] 23)); have HL9 := Aside0.mk HS.out.size; obtain ⟨b9, hb9⟩ : ∃ b, w60.heap.size = b := ⟨_, rfl⟩; generalize w60.alloc (.cells #[.int .i64 m.f0, .int .i64 m.f1, .string m.f2, .int .i64 m.f3, .int .i64 m.f4, .int .i64 m.f5, .string m.f6, .int .i64 m.f7] 23) = w69 at HB9 HS9 H60' ⊢; rw [hb9] at HB9 H60' HL9 ⊢; clear HS hb9 H60; have HS := HS9; clear HS9; refine norm_ (a' := ?_) ?_ ?_; rotate_left
       ·show Act.put _ (some 69) _ = _; simp only [Act.put, List.setIfInBounds_toArray, List.set_cons_zero, List.set_cons_succ, i64_w, i32_w]
        rfl
       refine one_ (i := 4) (N := some 64) (bq 16 15359) rfl rfl (by kernel_rfl) (by decide) (fun K hK => ?_); refine Kd.R_append_rows_step k23 (w0 := W) (Rr := k23.K W) W.heap.size (by rfl) (.tmp 60) (.tmp 63) 25 23 (.agg #[(.int .i64 0), (.int .i64 0), (.string ⟨#[]⟩), (.int .i64 0), (.int .i64 0), (.int .i64 0), (.string ⟨#[]⟩), (.int .i64 0)]) 80 rfl Tryd.underlying25 info23 rfl (by decide) (by omega) v60 [] (o.take pos) A2 (o.take pos).length c2 (fun k => k ≠ b9) (fun _ => False) rfl (by rw [htl]; rfl) H60'.out ?hR (fun y cs hy => mv_flat _ _ _ _ _ (k23.K_below HS.out hy)) (fun _ hk => hk.elim) (fun k hk e => by have := blk_lt HB9.out; omega) HS.out HS.out.size (by simp only [List.length_nil]; rw [htl]; omega) ?_
       case hR => exact reads_below HCt.out HS.out
       intro v64 w64 ho hb hg hat; refine hK.out _ _ hb (fun _ => ?_); clear hK K; rw [List.nil_append] at ho; refine norm_ (a' := putAll a0 ((fun (s : Value × Value × Nat) => [(60, s.1), (64, s.2.1), (69, .slice (some ⟨s.2.2, 0, none⟩) 1 1)]) (v60, v64, b9))) (by rw [← ha0]; rfl) (hj (v60, v64, b9) _ ⟨ho, ?_, HL9.out, hb⟩); exact blk_grown HB9.out hg (fun e => H60'.out.1 _ e.symm rfl)
     ·-- the element first
      refine value_ (w1 := w0.alloc (.cells #[.int .i64 m.f0, .int .i64 m.f1, .string m.f2, .int .i64 m.f3, .int .i64 m.f4, .int .i64 m.f5, .string m.f6, .int .i64 m.f7] 23)) (v := .slice (some ⟨w0.heap.size, 0, none⟩) 1 1) (by rfl) rfl pla4_0 ?_; refine hK.out _ _ (HS.out.alloc HS.out.size _) (fun _ => ?_); clear hK K; have HB9 := Aside0.mk (blk_new w0 (.cells #[.int .i64 m.f0, .int .i64 m.f1, .string m.f2, .int .i64 m.f3, .int .i64 m.f4, .int .i64 m.f5, .string m.f6, .int .i64 m.f7] 23)); have HS9 := Aside0.mk (HS.out.alloc HS.out.size (.cells #[.int .i64 m.f0, .int .i64 m.f1, .string m.f2, .int .i64 m.f3, .int .i64 m.f4, .int .i64 m.f5, .string m.f6, .int .i64 m.f7] 23)); have HL9 := Aside0.mk HS.out.size; obtain ⟨b9, hb9⟩ : ∃ b, w0.heap.size = b := ⟨_, rfl⟩; generalize w0.alloc (.cells #[.int .i64 m.f0, .int .i64 m.f1, .string m.f2, .int .i64 m.f3, .int .i64 m.f4, .int .i64 m.f5, .string m.f6, .int .i64 m.f7] 23) = w69 at HB9 HS9 ⊢; rw [hb9] at HB9 HL9 ⊢; clear HS hb9; have HS := HS9; clear HS9; refine norm_ (a' := ?_) ?_ ?_; rotate_left
      ·show Act.put _ (some 69) _ = _; simp only [Act.put, List.setIfInBounds_toArray, List.set_cons_zero, List.set_cons_succ, i64_w, i32_w]
       rfl
      refine one_ (i := 0) (N := some 60) (bq 16 15343) rfl rfl (by kernel_rfl) (by decide) (fun K hK => ?_); refine Kd.R_lit_step k23 (w0 := W) W.heap.size 23 (by rfl) (N := 60) rfl (xs := []) (inner := []) (okp := fun _ => False) (ok := (fun k => k ≠ b9)) pla4_0 ⟨rfl, fun j q hq => by simp at hq⟩ (fun _ hk => hk.elim) (by have := blk_lt HB9.out; intro e; rw [e] at this; exact absurd this (Nat.lt_irrefl _)) HS.out HS.out.size (by simp) ?_; intro v60 w60 ho hb hg hat; refine hK.out _ _ hb (fun _ => ?_); clear hK K; have H60 := Aside0.mk ho; have HB9' := Aside0.mk (blk_grown HB9.out hg (by simp)); have HS' := Aside0.mk hb; clear ho hb hg hat HB9 HS; have HB9 := HB9'; have HS := HS'; clear HB9' HS'; refine norm_ (a' := ?_) ?_ ?_; rotate_left
      ·show Act.put _ (some 60) _ = _; simp only [Act.put, List.setIfInBounds_toArray, List.set_cons_zero, List.set_cons_succ, i64_w, i32_w]
       rfl
      refine one_ (i := 4) (N := some 64) (bq 16 15359) rfl rfl (by kernel_rfl) (by decide) (fun K hK => ?_); refine Kd.R_append_rows_step k23 (w0 := W) (Rr := k23.K W) W.heap.size (by rfl) (.tmp 60) (.tmp 63) 25 23 (.agg #[(.int .i64 0), (.int .i64 0), (.string ⟨#[]⟩), (.int .i64 0), (.int .i64 0), (.int .i64 0), (.string ⟨#[]⟩), (.int .i64 0)]) 80 rfl Tryd.underlying25 info23 rfl (by decide) (by omega) v60 [] (o.take pos) A2 (o.take pos).length c2 (fun k => k ≠ b9) (fun _ => False) rfl (by rw [htl]; rfl) H60.out ?hR (fun y cs hy => mv_flat _ _ _ _ _ (k23.K_below HS.out hy)) (fun _ hk => hk.elim) (fun k hk e => by have := blk_lt HB9.out; omega) HS.out HS.out.size (by simp only [List.length_nil]; rw [htl]; omega) ?_
      case hR => exact reads_below HCt.out HS.out
      intro v64 w64 ho hb hg hat; refine hK.out _ _ hb (fun _ => ?_); clear hK K; rw [List.nil_append] at ho; refine norm_ (a' := putAll a0 ((fun (s : Value × Value × Nat) => [(60, s.1), (64, s.2.1), (69, .slice (some ⟨s.2.2, 0, none⟩) 1 1)]) (v60, v64, b9))) (by rw [← ha0]; rfl) (hj (v60, v64, b9) _ ⟨ho, ?_, HL9.out, hb⟩); exact blk_grown HB9.out hg (fun e => H60.out.1 _ e.symm rfl)
    rintro ⟨v60, v64, b9⟩ w9 ⟨hr9, hb9, hl9, hs9⟩
    dsimp only at hr9 hb9 hl9
    have HR9 := Aside0.mk hr9; have HB9 := Aside0.mk hb9; have HS := Aside0.mk hs9; clear hr9 hb9 hl9 hs9; rw [← ha0]; clear ha0; refine norm_ (a' := ?_) ?_ ?_; rotate_left
    ·simp only [putAll, Act.put, List.setIfInBounds_toArray, List.set_cons_zero, List.set_cons_succ]
     rfl
    refine one_ (i := 10) (N := some 70) (bq 16 16383) rfl rfl (by kernel_rfl) (by decide) (fun K hK => ?_); refine Kd.R_append_rows_step k23 (w0 := W) (Rr := k23.K w9) W.heap.size (by rfl) (.tmp 64) (.tmp 69) 25 23 (.agg #[(.int .i64 0), (.int .i64 0), (.string ⟨#[]⟩), (.int .i64 0), (.int .i64 0), (.int .i64 0), (.string ⟨#[]⟩), (.int .i64 0)]) 80 rfl Tryd.underlying25 info23 rfl (by decide) (by omega) v64 (o.take pos) [m] (some ⟨b9, 0, none⟩) 1 1 (fun k => k ≠ b9) (fun _ => False) rfl rfl HR9.out (reads_box HB9.out) (fun y cs hy => mv_flat _ _ _ _ _ hy) (fun _ hk => hk.elim) (fun k hk e => by have := blk_lt HB9.out; omega) HS.out HS.out.size (by rw [htl]; omega) ?_; intro v70 w70 ho hb hg hat; refine hK.out _ _ hb (fun _ => ?_); clear hK K; have HLT : Aside0 (b9 < w70.heap.size) := ⟨Nat.lt_of_lt_of_le (blk_lt HB9.out) hg.size⟩; have HR9' := Aside0.mk ho; have HS9 := Aside0.mk hb; clear ho hb hg hat HS; refine norm_ (a' := ?_) ?_ ?_; rotate_left
    ·show Act.put _ (some 70) _ = _; simp only [Act.put, List.setIfInBounds_toArray, List.set_cons_zero, List.set_cons_succ, i64_w, i32_w]
     rfl
    refine one_ (i := 14) (N := some 74) (bq 16 32767) rfl rfl (by kernel_rfl) (by decide) (fun K hK => ?_); refine Kd.R_append_rows_step k23 (w0 := W) (Rr := k23.K W) W.heap.size (by rfl) (.tmp 70) (.tmp 73) 25 23 (.agg #[(.int .i64 0), (.int .i64 0), (.string ⟨#[]⟩), (.int .i64 0), (.int .i64 0), (.int .i64 0), (.string ⟨#[]⟩), (.int .i64 0)]) 80 rfl Tryd.underlying25 info23 rfl (by decide) (by omega) v70 (o.take pos ++ [m]) (o.drop pos) (if c2 = pos then A2 else Option.map (fun x => x.add (pos * 8)) A2) (o.drop pos).length (c2 - pos) (fun k => k ≠ b9) (fun _ => False) rfl (by rw [hdl]; rfl) HR9'.out ?hR (fun y cs hy => mv_flat _ _ _ _ _ (k23.K_below HS9.out hy)) (fun _ hk => hk.elim) ?hF HS9.out HS9.out.size (by simp only [List.length_append, List.length_singleton]; rw [htl, hdl]; omega) ?_
    case hR => exact reads_below HCd.out HS9.out
    case hF => exact fun k hk e => by have := HLT.out; omega
    intro v74 w74 ho hb hg hat; refine hK.out _ _ hb (fun _ => ?_); clear hK K; rw [List.append_assoc, List.singleton_append] at ho; have HR14 := Aside0.mk (Kd.R_mono (ok' := fun _ => True) ho (fun _ _ => trivial)); have HS14 := Aside0.mk hb; clear ho hb hg hat HR9' HS9; refine norm_ (a' := ?_) ?_ ?_; rotate_left
    ·show Act.put _ (some 74) _ = _; simp only [Act.put, List.setIfInBounds_toArray, List.set_cons_zero, List.set_cons_succ, i64_w, i32_w]
     rfl
    refine pure_ (i := 15) (N := some 3) (v := ?_) (a' := ?_) (bq 16 65535) rfl rfl (by kernel_rfl) (fun _ _ _ h => h) (Or.inl ⟨by rfl, ?_⟩) ?_ ?_; rotate_left
    ·intro w'; go_simp; with_reducible rfl
    rotate_left
    ·exact cbb2_0
    refine done_ (by kernel_rfl) ?_; go_simp
    repeat go_step
    all_goals
     go_roundg k1
     case measure => omega
     case rel => exact ⟨j + 1, insr o m, by go_num, ⟨by have := HJ.out; omega⟩, H', ⟨by rw [insr_length, HO1.out]⟩, ⟨Kd.R_lower (by rw [insr_pos HPo.out]; exact HR14.out) HBW.out.size⟩, ⟨below_then HBW.out HBW.out.size HS14.out⟩⟩
end Go.Proofs.YtegpappenmhndaaDoor.M
end
section
namespace Go.Proofs.YtegpappenmhndaaDoor.M
open Go.RowKit Go.Proofs.YtegpappenmhndaaDoorW.PrintWords Go.Proofs.YtegpappenmhndaaDoorW.PrintLast
set_option linter.unusedVariables false
set_option linter.unusedSimpArgs false
def aftP (m y : Mv) : Prop := m.f1 < y.f1 ∨ (m.f1 = y.f1 ∧ m.f0 < y.f0)
instance (m y : Mv) : Decidable (aftP m y) := by unfold aftP; infer_instance
theorem aft_iff (m y : Mv) : aft m y = true ↔ aftP m y := by simp [aft, aftP]
theorem gtm_iff (m y : Mv) : gtm m y = true ↔ aftP m y := by
 unfold gtm aftP
 rw [show (y.f1 == m.f1) = (m.f1 == y.f1) from Bool.beq_comm]
 simp
def leM (x y : Mv) : Prop := ¬ aftP y x
theorem leM_trans {x y z : Mv} (h : leM x y) (g : leM y z) : leM x z := by unfold leM aftP at *; omega
theorem leM_total (x y : Mv) : leM x y ∨ leM y x := by unfold leM aftP; omega
theorem aft_leM {m y : Mv} (h : aftP m y) : leM m y := by unfold leM aftP at *; omega
theorem mvAt_get (l : List Mv) (i : Nat) (h : i < l.length) : mvAt l i = l[i] := by
 simp [mvAt, rd_T23, List.getD_eq_getElem?_getD, h]
def At (p : Nat → Bool) (n k : Nat) : Prop := k ≤ n ∧ (∀ i, i < k → p i = false) ∧ ∀ i, k ≤ i → i < n → p i = true
theorem At.uniq {p : Nat → Bool} {n k j : Nat} (h : At p n k) (g : At p n j) : k = j := by
 rcases Nat.lt_trichotomy k j with c | c | c
 ·have h1 := h.2.2 k (Nat.le_refl _) (by have := g.1; omega); have h2 := g.2.1 k c; rw [h1] at h2; cases h2
 ·exact c
 ·have h1 := g.2.2 j (Nat.le_refl _) (by have := h.1; omega); have h2 := h.2.1 j c; rw [h1] at h2; cases h2
theorem bsr_at (p : Nat → Bool) (n : Nat) (hp : ∀ i j, i ≤ j → j < n → p i = true → p j = true) : ∀ (f lo hi : Nat), hi - lo ≤ f → lo ≤ hi → hi ≤ n → (∀ i, i < lo → p i = false) → (∀ i, hi ≤ i → i < n → p i = true) → At p n (bsr p f lo hi)
 | 0, lo, hi, h, h1, h2, h3, h4 => by
  obtain rfl : lo = hi := by omega
  exact ⟨h2, h3, h4⟩
 | f + 1, lo, hi, h, h1, h2, h3, h4 => by
  unfold bsr
  by_cases c : lo < hi
  ·rw [if_pos c]
   by_cases d : p ((lo + hi) / 2) = true
   ·rw [if_pos d]; exact bsr_at p n hp f lo ((lo + hi) / 2) (by omega) (by omega) (by omega) h3 (fun i hi1 hi2 => hp _ i hi1 hi2 d)
   ·rw [if_neg d]; refine bsr_at p n hp f ((lo + hi) / 2 + 1) hi (by omega) (by omega) h2 (fun i hi1 => ?_) h4
    cases e : p i with
    | false => rfl
    | true => exact absurd (hp i _ (by omega) (by omega) e) d
  ·rw [if_neg c]; obtain rfl : lo = hi := by omega
   exact ⟨h2, h3, h4⟩
theorem refpos_at (p : Nat → Bool) (n : Nat) (hp : ∀ i j, i ≤ j → j < n → p i = true → p j = true) : ∀ k, k ≤ n → (∀ i, k ≤ i → i < n → p i = true) → At p n (refpos p k)
 | 0, h, h1 => show At p n 0 from ⟨h, fun i hi => absurd hi (by omega), h1⟩
 | k + 1, h, h1 => by
  unfold refpos
  by_cases d : p k = true
  ·rw [if_pos d]; refine refpos_at p n hp k (by omega) (fun i h2 h3 => ?_)
   by_cases e : i = k
   ·rw [e]; exact d
   ·exact h1 i (by omega) h3
  ·rw [if_neg d]; refine ⟨h, fun i hi => ?_, h1⟩
   cases e : p i with
   | false => rfl
   | true => exact absurd (hp i k (by omega) (by omega) e) d
def insv' (o : List Mv) (m : Mv) : List Mv := o.takeWhile (fun y => ! aft m y) ++ m :: o.dropWhile (fun y => ! aft m y)
theorem tw_at (m : Mv) : ∀ (o : List Mv), o.Pairwise leM → ∃ k, At (fun i => aft m (mvAt o i)) o.length k ∧ o.takeWhile (fun y => ! aft m y) = o.take k ∧ o.dropWhile (fun y => ! aft m y) = o.drop k
 | [], _ => ⟨0, ⟨Nat.le_refl _, by simp, by simp⟩, rfl, rfl⟩
 | y :: r, h => by
  obtain ⟨hy, hr⟩ := List.pairwise_cons.1 h
  by_cases c : aft m y = true
  ·refine ⟨0, ⟨by simp, by simp, fun i _ hi => ?_⟩, by simp [c], by simp [c]⟩; show aft m (mvAt (y :: r) i) = true; rw [mvAt_get _ _ hi]; rw [aft_iff] at c ⊢
   cases i with
   | zero => exact c
   | succ i =>
    have := hy (r[i]'(by simpa using hi)) (List.getElem_mem _); simp only [List.getElem_cons_succ]
    unfold leM aftP at *
    omega
  ·obtain ⟨k, ⟨h1, h2, h3⟩, h4, h5⟩ := tw_at m r hr; have c' : aft m y = false := by simpa using c
   refine ⟨k + 1, ⟨by simpa using h1, fun i hi => ?_, fun i hi1 hi2 => ?_⟩, by simp [c', h4], by simp [c', h5]⟩
   ·cases i with
    | zero => exact c'
    | succ i =>
     have := h2 i (by omega)
     simpa [mvAt, rd_T23] using this
   ·cases i with
    | zero => omega
    | succ i =>
     have := h3 i (by omega) (by simpa using hi2)
     simpa [mvAt, rd_T23] using this
theorem mono_of {o : List Mv} (h : o.Pairwise leM) (m : Mv) : ∀ i j, i ≤ j → j < o.length → aft m (mvAt o i) = true → aft m (mvAt o j) = true := by
 intro i j hij hj hp
 rcases Nat.lt_or_ge i j with c | c
 ·rw [mvAt_get _ _ (by omega), aft_iff] at hp; rw [mvAt_get _ _ hj, aft_iff]; have := List.pairwise_iff_getElem.1 h i j (by omega) hj c
  unfold leM aftP at *
  omega
 ·obtain rfl : i = j := by omega
  exact hp
theorem insv_eq {o : List Mv} (h : o.Pairwise leM) (m : Mv) : insv m o m = insv' o m := by
 obtain ⟨k, h1, h2, h3⟩ := tw_at m o h; have e := (bsr_at _ _ (mono_of h m) o.length 0 o.length (by omega) (by omega) (by omega) (by intro i hi; omega) (by intro i hi hj; omega)).uniq h1
 unfold insv insv'
 rw [e, h2, h3]
theorem gtm_eq : (fun (m : Mv) (o : List Mv) i => gtm m (mvAt o i)) = fun m o i => aft m (mvAt o i) := by
 funext m o i
 rw [Bool.eq_iff_iff, gtm_iff, aft_iff]
theorem insr_eq {o : List Mv} (h : o.Pairwise leM) (m : Mv) : insr o m = insv' o m := by
 obtain ⟨k, h1, h2, h3⟩ := tw_at m o h; have hg : (fun i => gtm m (mvAt o i)) = fun i => aft m (mvAt o i) := congrFun (congrFun gtm_eq m) o; have e := (refpos_at _ _ (mono_of h m) o.length (by omega) (by intro i hi hj; omega)).uniq h1
 unfold insr insv'
 rw [hg, e, h2, h3]
theorem insv'_perm (o : List Mv) (m : Mv) : (insv' o m).Perm (m :: o) := by
 unfold insv'
 have := List.takeWhile_append_dropWhile (p := fun y => ! aft m y) (l := o); refine List.perm_middle.trans ?_; rw [this]
theorem insv'_sorted {o : List Mv} (h : o.Pairwise leM) (m : Mv) : (insv' o m).Pairwise leM := by
 obtain ⟨k, ⟨h1, h2, h3⟩, h4, h5⟩ := tw_at m o h
 unfold insv'
 rw [h4, h5]
 have ht : ∀ y ∈ o.take k, leM y m := by
  intro y hy; obtain ⟨i, hi, rfl⟩ := List.mem_iff_getElem.1 hy; have hi' : i < k := by simp at hi; omega
  have := h2 i hi'; rw [List.getElem_take]; have h9 : ¬ aft m (mvAt o i) = true := fun h => by have := this.symm.trans h; cases this
  rw [aft_iff, mvAt_get _ _ (by omega)] at h9; exact h9
 have hd : ∀ y ∈ o.drop k, leM m y := by
  intro y hy; obtain ⟨i, hi, rfl⟩ := List.mem_iff_getElem.1 hy; have hi' : k + i < o.length := by simp at hi; omega
  have := h3 (k + i) (by omega) hi'; rw [List.getElem_drop]; rw [aft_iff, mvAt_get _ _ hi'] at this; exact aft_leM this
 refine List.pairwise_append.2 ⟨h.sublist (List.take_sublist _ _), List.pairwise_cons.2 ⟨hd, h.sublist (List.drop_sublist _ _)⟩, ?_⟩; intro x hx y hy
 rcases List.mem_cons.1 hy with e | e
 ·rw [e]; exact ht x hx
 ·exact leM_trans (ht x hx) (hd y e)
def ordv (l : List Mv) : List Mv := l.foldl insv' []
theorem fold_both : ∀ (l o : List Mv), o.Pairwise leM → l.foldl (fun o m => insv m o m) o = l.foldl insv' o ∧ l.foldl insr o = l.foldl insv' o ∧ (l.foldl insv' o).Pairwise leM ∧ (l.foldl insv' o).Perm (o ++ l)
 | [], o, h => ⟨rfl, rfl, h, by simp⟩
 | m :: l, o, h => by
  obtain ⟨h1, h2, h3, h4⟩ := fold_both l (insv' o m) (insv'_sorted h m); simp only [List.foldl_cons, insv_eq h, insr_eq h]; refine ⟨h1, h2, h3, h4.trans ?_⟩; exact (List.Perm.append_right l (insv'_perm o m)).trans (List.perm_middle (a := m) (l₁ := o) (l₂ := l)).symm
theorem ordv_sorted (l : List Mv) : (ordv l).Pairwise leM := (fold_both l [] List.Pairwise.nil).2.2.1
theorem ordv_perm (l : List Mv) : (ordv l).Perm l := (fold_both l [] List.Pairwise.nil).2.2.2
theorem ordv_length (l : List Mv) : (ordv l).length = l.length := (ordv_perm l).length_eq
theorem F17.eq {l : List Mv} (h : l.length ≤ 1000000) : F17.f l = some (ordv l) := by
 unfold F17.f ordv
 rw [if_pos h, (fold_both l [] List.Pairwise.nil).1]
theorem F18.eq {l : List Mv} (h : l.length ≤ 1000000) : F18.f l = some (ordv l) := by
 unfold F18.f ordv
 rw [if_pos h, (fold_both l [] List.Pairwise.nil).2.1]
theorem F16.go (L : List Mv) (hs : L.length < 100000000000000) : ∀ (d : Nat) (i : Int), i + d = L.length → 0 ≤ i → Ev (fun k => F16.l0 k L L i) true
 | 0, i, h, h0 => by
  refine Ev.succ ?_; simp only [F16.l0, if_neg (show ¬ i < (L.length : Int) by omega)]; exact Ev.const _
 | d + 1, i, h, h0 => by
  refine Ev.succ ?_; simp only [F16.l0, if_pos (show i < (L.length : Int) by omega), if_pos h0, beq_self_eq_true, Bool.not_true, Bool.or_self, Bool.false_eq_true, if_false]; rw [w64 (n := i + 1) (by omega) (by omega)]; exact F16.go L hs d (i + 1) (by omega) (by omega)
theorem F16.self (L : List Mv) (hs : L.length < 100000000000000) : Ev (fun k => F16.f k L L) true := by
 unfold F16.f
 simp only [if_true]; exact F16.go L hs L.length 0 (by omega) (by omega)
end Go.Proofs.YtegpappenmhndaaDoor.M
end
section
namespace Go.Proofs.YtegpappenmhndaaDoor.M
open Go.RowKit Go.Proofs.YtegpappenmhndaaDoorW.PrintWords Go.Proofs.YtegpappenmhndaaDoorW.PrintLast
set_option linter.unusedVariables false
theorem F7.j0_eq {l : List MV} {r : List Int} {amount value : Int} {bc c : Bool} (hr : c = false → r.length ≤ 100000) (hz : ∀ y ∈ l, y.f2.size ≤ 1000000000000000 ∧ y.f6.size ≤ 1000000000000000) : Ev (fun k => F7.j0 k l c months r amount bc value) true := by
 refine Ev.succ ?_
 cases c with
 | true => simp only [F7.j0, if_true]; exact Ev.bind F11.true (Ev.const _)
 | false =>
  have hr := hr rfl; simp only [F7.j0, Bool.false_eq_true, if_false]; refine Ev.bind (F22.eq hr) (Ev.bind (F23.eq hr hz) ?_); refine Ev.bind (F16.self _ (by have := landv_length l r amount bc value; omega)) ?_; simp only [if_true]; exact Ev.bind F11.true (Ev.const _)
theorem pure_MovesLanded : F7.Pure := by
 intro l x hl hx
 have hz : ∀ y ∈ l, y.f2.size ≤ 1000000000000000 ∧ y.f6.size ≤ 1000000000000000 := by
  intro y hy; obtain ⟨_, _, h2, _, _, _, h6, _⟩ := hl.2 y hy; exact ⟨by omega, by omega⟩
 refine Ev.out (g := fun k => F7.f k l x.f0 x.f1 x.f2 x.f3 months) ?_
 unfold F7.f
 obtain ⟨b, hb, _⟩ := F10.ok l; refine Ev.bind hb ?_
 cases b with
 | false => simp only [Bool.false_eq_true, if_false]; exact F7.j0_eq (by intro h; cases h) hz
 | true => simp only [if_true]; exact F7.j0_eq (by intro h; have := of_decide_eq_false h; omega) hz
end Go.Proofs.YtegpappenmhndaaDoor.M
namespace Go.Proofs.YtegpappenmhndaaDoor.Pure
theorem MovesLanded : M.F7.Pure := M.pure_MovesLanded
end Go.Proofs.YtegpappenmhndaaDoor.Pure
end
section
namespace Go.Proofs.YtegpappenmhndaaDoor.M
open Go.ChangeShapes Go.WideShapes Go.ChangeAt Go.RowKit Go.Proofs.YtegpappenmhndaaDoorW.PrintWords Go.Proofs.YtegpappenmhndaaDoorW.PrintLast
abbrev laidL : List (String × DataW Unit) := [("accounting/days.lengths", Rows.laid_accounting_days_lengths)]
theorem gLen : Tryd.prog.globalNamed "accounting/days.lengths" = some 0 := by kernel_rfl
theorem tLen : (Tryd.prog.globals[0]?).map (·.type) = some 91 := by kernel_rfl
theorem cLen : Tryd.prog.cellsOf 91 = 12 := by kernel_rfl
theorem cInt : Tryd.prog.cellsOf 3 = 1 := by kernel_rfl
set_option maxRecDepth 100000 in
theorem tab_of_laid {W : World} (h : laidMetH Tryd.prog laidL W) : Tab W := by
 rw [MakeChecks.laidMetH_plain _ _ _ (by kernel_rfl)] at h; obtain ⟨ps, ⟨g0, t0, cs0, f0, p0, q0, hg0, ht0, hv0, hd0, _⟩, _⟩ := h; obtain rfl := Option.some.inj (gLen.symm.trans hg0); obtain rfl := Option.some.inj (tLen.symm.trans ht0); obtain ⟨xs, m1, rfl, hx1, hlen, hn3, hel⟩ := DataW.trod_array Tryd.underlying91 hd0
 have hxs : xs.map (·.1) = months.map (fun n => (DataW.lit (.int .i64 n) : DataW Unit)) := by
  have e := congrArg (fun y : DataW Unit × List MemPlace => y.1) hx1
  unfold Rows.laid_accounting_days_lengths at e
  injection e with e
  exact e.symm
 have each : ∀ i, i < 12 → cs0.toList[i]? = (months[i]?).map (Value.int .i64) := by
  intro i hi; have h1 := hel i hi; rw [cInt, Nat.mul_one] at h1; obtain ⟨x, hx⟩ : ∃ x, xs[i]? = some x := ⟨xs[i], List.getElem?_eq_getElem (by omega)⟩; rw [hx] at h1; obtain ⟨n, e1, e2, _⟩ := DataW.trod_int Tryd.underlying3 h1; have e3 := congrArg (fun l => l[i]?) hxs; simp only [List.getElem?_map, hx, Option.map_some, e2] at e3; have e4 := congrArg (fun l => l[0]?) e1; simp only [List.getElem?_take, List.getElem?_drop, Nat.add_zero, Nat.zero_lt_one, if_true, List.getElem?_cons_zero] at e4; rw [e4]
  cases hm : months[i]? with
  | none => rw [hm] at e3; cases e3
  | some m =>
   rw [hm] at e3; simp only [Option.map_some, Option.some.injEq, DataW.lit.injEq, Lit.int.injEq, true_and] at e3; rw [e3]
   rfl
 have hcs : cs0 = (months.map (Value.int .i64)).toArray := by
  rw [← Array.toList_inj]; apply List.ext_getElem?; intro i
  by_cases hi : i < 12
  ·rw [each i hi, List.getElem?_map]
  ·rw [List.getElem?_eq_none (by rw [hlen, cLen]; omega), List.getElem?_eq_none (by simp [months]; omega)]
 have hv := hv0; simp only [World.var?, gLen, Option.bind_some] at hv
 split at hv
 ·rename_i cs t fr hb
  obtain rfl := Option.some.inj hv; exact ⟨t, fr, by rw [hb, hcs]⟩
 ·cases hv
theorem door_met (os : Os) (args : Array Value) : laidMetH Tryd.prog laidL ((World.doorLaid Tryd.prog 400 os).forCall (fun _ _ => 0) ⟨#[], args, []⟩).memory :=
 laidMetH_of_parts3 (fuel := 8) (laidMet_of_run' 8 (by kernel_rfl) (by kernel_rfl)) (by kernel_rfl) (by kernel_rfl)
end Go.Proofs.YtegpappenmhndaaDoor.M
end
section
namespace Go.Proofs.YtegpappenmhndaaDoor.movesLanded
open Go.ChangeShapes Go.WideShapes Go.ChangeAt Go.RowKit Go.Proofs.YtegpappenmhndaaDoor.M Go.Proofs.YtegpappenmhndaaDoorW.PrintWords Go.Proofs.YtegpappenmhndaaDoorW.PrintLast
open Go.ChangeMaps (open_string shut_string)
set_option linter.unusedVariables false
theorem own : ownKnob Tryd.prog.godebug = none := by kernel_rfl
theorem laidOut : laidOutB Tryd.prog = true := by kernel_rfl
set_option maxRecDepth 100000 in
set_option maxHeartbeats 4000000 in
theorem lifted (os : Os) (started : os.Started) (H : Type) (enc : TypeId × Value → H) :
  ReturnsInHanded {} Tryd.checked os 7 .any (fun w args => (Rows.movesLandedSpec.pre enc Tryd.prog Tryd.f7 Rows.movesLandedRow.domain false w args ∧ laidMetH Tryd.prog Rows.movesLandedRow.laid w) ∧ sizedMet enc Tryd.prog Tryd.f7 (OpenSpec.ofChange Rows.movesLandedSpec) false w args) (Rows.movesLandedSpec.post enc Tryd.prog Tryd.f7 false true false false) := by
 refine returnsInHanded_of_change_and (C := Tryd.checked) (X := fun w _ => laidMetH Tryd.prog Rows.movesLandedRow.laid w) (fun _ _ _ hh h => h.of_heap hh) own started (by kernel_rfl) Tryd.func7
  (ChangeSpec.witness_shaped (enc := enc) (C := Tryd.checked) (os := os) (X := fun w _ => laidMetH Tryd.prog Rows.movesLandedRow.laid w) false (World.doorLaid Tryd.prog 400 os) #[.slice none 0 0, .agg #[.slice none 0 0, .int .i64 0, .bool false, .int .i64 0]] 8 rfl (World.shaped_of_RefB (by kernel_rfl) (by kernel_rfl)) (by kernel_rfl) (by kernel_rfl) (by kernel_rfl) (door_met os _)) ?_
 intro W base args ds gs before hval0 hW hcnd hsz0 hL _; have hsz : (DataW.weightsEach Tryd.prog (Tryd.f7.params.toList ++ Rows.movesLandedSpec.plain.varTypes Tryd.prog) (ds ++ gs)).all (· ≤ reachBytes) = true := hsz0; have hval : ∀ (j : Nat) t v, Tryd.f7.params[j]? = some t → args[j]? = some v → Value.okWide Tryd.prog W .any base t v := hval0; have hW' := hW; obtain ⟨p, q, hA0, hV, rfl, hfz, hnd⟩ := hW; have hA : DataW.TrodAll enc Tryd.prog W 0 (fun _ => true) true Tryd.f7.params.toList args.toList ds p := hA0; rw [Tryd.params7] at hA hval hsz; obtain ⟨v0, vs0, d0, ds0, p0, q0, hargs, rfl, rfl, h0, r0⟩ := trodAll_cons hA; obtain ⟨v1, vs1, d1, ds1, p1, q1, rfl, rfl, rfl, h1, r1⟩ := trodAll_cons r0; obtain ⟨rfl, rfl, rfl⟩ := trodAll_nil r1; obtain rfl : args = #[v0, v1] := by cases args; simp_all
 obtain ⟨rfl, rfl⟩ := trodVars_none hV; obtain ⟨a0, len0, cap0, rfl⟩ := okWide_slice Tryd.underlying25 (hval 0 25 v0 rfl rfl); have k0 := h0; have lt0 : ∀ x ∈ p0, x.block < W.heap.size := by obtain ⟨m, hm⟩ := k0; exact DataW.trod_lt m _ _ _ hm
 obtain ⟨x0, K0, g0⟩ : ∃ x_ : List (S23), (Kd.slice 23 k23).K W x_ [.slice a0 len0 cap0] ∧ (x_.length * 80 ≤ 140737488351232 ∧ ∀ y0_ ∈ x_, G23 y0_) := by obtain ⟨f, hf⟩ := h0; exact ((Opens.slice Tryd.underlying25 opens23 (by kernel_rfl) (b := 80) (by kernel_rfl))).get enc W 0 _ _ f _ _ hf (weights_at hsz (j := 0) (t := 25) rfl rfl)
 obtain ⟨A0, c0, e0, L0, C0⟩ := K0; injection e0 with e0 _
 injection e0 with e0a e0b e0c
 subst e0a e0b e0c; obtain ⟨cs1, rfl⟩ : ∃ cs, v1 = .agg cs := by have z := (hval 1 44 v1 rfl rfl); simp only [Value.okWide, Tryd.underlying44] at z; obtain ⟨cs, e, _⟩ := z; exact ⟨cs, e⟩
 have k1 := h1; have lt1 : ∀ x ∈ p1, x.block < W.heap.size := by obtain ⟨m, hm⟩ := k1; exact DataW.trod_lt m _ _ _ hm
 obtain ⟨x1, K1, g1⟩ : ∃ x_ : S44, k44.K W x_ cs1.toList ∧ (G44 x_) := by obtain ⟨f, hf⟩ := h1; exact (opens44).get enc W 0 _ _ f _ _ hf (weights_at hsz (j := 1) (t := 44) rfl rfl)
 obtain ⟨A1_0, c1_0, e1, L1_0, C1_0⟩ := k44_open K1; obtain rfl : cs1 = #[.slice A1_0 x1.f0.length c1_0, .int .i64 x1.f1, .bool x1.f2, .int .i64 x1.f3] := by rw [← Array.toList_inj]; exact e1
 clear hA0 hval0 hsz0 hsz; obtain ⟨k, h⟩ := Pure.MovesLanded x0 x1 g0 g1; refine (M.F7.calls (k := k) (r := true) (w := W) (hr0 := C0) (hc0 := L0) (hr1_0 := C1_0) (hc1_0 := L1_0) (hr2 := kTab_of (tab_of_laid hL)) (hc2 := Nat.le_refl _) (h := h)).mono fun e W' ⟨he, bel0⟩ => ?_; have bel : Below W.heap.size W W' := by first | exact bel0 | exact bel0.below | (obtain ⟨nd, rfl⟩ := bel0; exact pw_below_drewN (Below.refl _ _) nd)
 subst he; exact ⟨_, rfl, _, _, _, [], _, [], hW', trodAll_mk1 (shut_bool Tryd.underlying4 _), (trodAll_cons_mk (Below.trod laidOut (by kernel_rfl) (of_decide_eq_true (by kernel_rfl)) k0 bel lt0) (trodAll_cons_mk (Below.trod laidOut (by kernel_rfl) (of_decide_eq_true (by kernel_rfl)) k1 bel lt1) trodAll_mk0)), rfl, bel.frame _, fun h => by cases h⟩
theorem over : Rows.movesLandedRow.holds Tryd.pinned (OpenSpec.ofChange Rows.movesLandedSpec) :=
 OpenClaim.holds_of_wide 7 Tryd.f7 rfl rfl rfl rfl rfl rfl rfl ⟨rfl, rfl, rfl, rfl, rfl⟩ rfl rfl rfl rfl rfl (by kernel_rfl) Tryd.func7 (by kernel_rfl)
  (of_decide_eq_true (by kernel_rfl)) (by unfold Func.isWrapper; first | (rw [if_pos (by decide +kernel)]; kernel_rfl) | (rw [if_neg (by decide +kernel)]; exact ⟨rfl, rfl⟩))
  (fun os started H enc _ => lifted os started H enc)
theorem proved : Rows.MovesLandedCardSaid :=
 Claim7.holds_tied_plain_at .later [] [.data] true (true, "98db53edb2efb439c9ec8dc62e8b94103ef33d00be49343a9acd4b193d3e4474") false
  over (fun _ h => by cases h) (by kernel_rfl) (fun _ h => by cases h) movesLanded_row_tie rfl ⟨rfl, rfl⟩ (by kernel_rfl) rfl
  (fun f fn hf hfn => by
   obtain rfl : f = 7 := Option.some.inj ((show Tryd.prog.funcNamed "accounting/accountinglaw33.MovesLanded" = some 7 by kernel_rfl).symm.trans hf) |>.symm; obtain rfl : fn = Tryd.f7 := (Option.some.inj (Tryd.func7.symm.trans hfn)).symm
   exact ⟨by kernel_rfl, fun j t ht => by
    rw [Tryd.params7] at ht; have hm : t ∈ [25, 44] := by simpa using Array.mem_of_getElem? ht
    have hall : ([25, 44].all fun u => !Tryd.prog.wantsStandIn u) = true := by kernel_rfl
    exact (show Tryd.prog.wantsStandIn t = false by simpa using List.all_eq_true.1 hall t hm)⟩)
  (by kernel_rfl)
#print axioms proved
end Go.Proofs.YtegpappenmhndaaDoor.movesLanded
namespace Go.Proofs.YtegpappenmhndaaDoor
theorem movesLanded_holds : Rows.MovesLandedCardSaid := movesLanded.proved
end Go.Proofs.YtegpappenmhndaaDoor
end
