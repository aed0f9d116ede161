/- What the claims of this seat share, part 3 of 3: what the program's functions compute. -/
import Derived.Test.YtgjpegmhlnabpaaQRR2
import Derived.Test.YtgjpegmhlnabpaaQB5
import Derived.Test.YtgjpegmhlnabpaaQCC2
import Derived.Laws.Closers25b
section
namespace Go.Proofs.Ytgjpegmhlnabpaa.M
open Go.RowKit Go.Proofs.YtgjpegmhlnabpaaW.PrintWords Dv
set_option linter.unusedVariables false
set_option linter.unusedSimpArgs false
def letv (a : Int) : Bool := decide (97 ≤ a ∧ a ≤ 122) || (decide (65 ≤ a ∧ a ≤ 90) || a == 95)
def digv (a : Int) : Bool := decide (48 ≤ a ∧ a ≤ 57)
theorem words_letter.eq (a : Int) : words_letter.f a = some (letv a) := by
  unfold words_letter.f letv
  by_cases h1 : a ≥ 97 <;> by_cases h2 : a ≤ 122 <;> by_cases h3 : a ≥ 65 <;> by_cases h4 : a ≤ 90 <;> simp [h1, h2, h3, h4]
theorem words_digit.eq (a : Int) : words_digit.f a = some (digv a) := by
  unfold words_digit.f digv
  by_cases h1 : a ≥ 48 <;> by_cases h2 : a ≤ 57 <;> simp [h1, h2]
theorem accountingref06_letter.eq (a : Int) : accountingref06_letter.f a = some (letv a) := by
  unfold accountingref06_letter.f letv
  by_cases h1 : a ≥ 97 <;> by_cases h2 : a ≤ 122 <;> by_cases h3 : a ≥ 65 <;> by_cases h4 : a ≤ 90 <;> simp [h1, h2, h3, h4]
theorem accountingref06_digit.eq (a : Int) : accountingref06_digit.f a = some (digv a) := by
  unfold accountingref06_digit.f digv
  by_cases h1 : a ≥ 48 <;> by_cases h2 : a ≤ 57 <;> simp [h1, h2]
theorem words_Code_1.eq (a : Int) : words_Code_1.f a = some (letv a || digv a) := by
  unfold words_Code_1.f
  rw [words_letter.eq, words_digit.eq]
  cases letv a <;> simp
def gall (b : ByteArray) : Nat → Nat → Bool
  | 0, _ => true
  | n + 1, i => (letv (bt b (i : Int)) || digv (bt b (i : Int))) && gall b n (i + 1)
def codev (b : ByteArray) : Bool := gall b b.size 0 && (decide ((b.size : Int) ≥ 1) && decide ((b.size : Int) ≤ 12))
theorem words_every.go (b : ByteArray) (hb : b.size ≤ 1000) : ∀ n i, i + n = b.size → Ev (fun k => words_every__words_Code_1.l0 k b (b.size : Int) (i : Int)) (gall b n i)
  | 0, i, h => by
    refine Ev.succ ?_; simp only [words_every__words_Code_1.l0, if_neg (show ¬ (i : Int) < (b.size : Int) by omega)]; exact Ev.const _
  | n + 1, i, h => by
    refine Ev.succ ?_; simp only [words_every__words_Code_1.l0, if_pos (show (i : Int) < (b.size : Int) by omega), if_pos (show (0 : Int) ≤ (i : Int) by omega), words_Code_1.eq, Option.bind_some]
    unfold gall
    rw [w64 (n := (i : Int) + 1) (by omega) (by omega), show (i : Int) + 1 = ((i + 1 : Nat) : Int) by omega]
    cases (letv (bt b (i : Int)) || digv (bt b (i : Int))) with
    | false => exact Ev.const _
    | true =>
      simp only [if_true, Bool.true_and]; exact words_every.go b hb n (i + 1) (by omega)
theorem size_nil (b : ByteArray) : b.toList = ([] : List UInt8) ↔ b.size = 0 := by
  rw [toList_nil_iff_emptyBytes]
  constructor
  · rintro rfl; rfl
  · intro h; exact ByteArray.ext (Array.eq_empty_of_size_eq_zero h)
theorem words_Code.eq (b : ByteArray) : Ev (fun k => words_Code.f k b) (codev b) := by
  unfold words_Code.f codev
  by_cases c : b.toList = ([] : List UInt8)
  · have := (size_nil b).1 c; simp only [if_pos c, decide_eq_false (show ¬ (b.size : Int) ≥ 1 by omega), Bool.false_and, Bool.and_false]; exact Ev.const _
  · have h1 : b.size ≠ 0 := fun h => c ((size_nil b).2 h); simp only [if_neg c, decide_eq_true (show (b.size : Int) ≥ 1 by omega), Bool.true_and]
    by_cases e : (b.size : Int) ≤ 12
    · simp only [if_pos e, decide_eq_true e, Bool.and_true]
      unfold words_every__words_Code_1.f
      exact Ev.bind (words_every.go b (by omega) b.size 0 (by omega)) (Ev.const _)
    · simp only [if_neg e, decide_eq_false e, Bool.and_false]; exact Ev.const _
theorem accountingref06_Code.go (b : ByteArray) (hb : b.size ≤ 1000000000000000) : ∀ n i, i + n = b.size → Ev (fun k => accountingref06_Code.l0 k b (i : Int)) (gall b n i && (decide ((b.size : Int) ≥ 1) && decide ((b.size : Int) ≤ 12)))
  | 0, i, h => by
    refine Ev.succ ?_; simp only [accountingref06_Code.l0, if_neg (show ¬ (i : Int) < (b.size : Int) by omega), gall, Bool.true_and]
    by_cases c : (b.size : Int) ≥ 1
    · simp only [if_pos c, decide_eq_true c, Bool.true_and]; exact Ev.const _
    · simp only [if_neg c, decide_eq_false c, Bool.false_and]; exact Ev.const _
  | n + 1, i, h => by
    refine Ev.succ ?_; simp only [accountingref06_Code.l0, if_pos (show (i : Int) < (b.size : Int) by omega), if_pos (show (0 : Int) ≤ (i : Int) by omega), accountingref06_letter.eq, accountingref06_digit.eq, Option.bind_some]
    unfold gall
    rw [w64 (n := (i : Int) + 1) (by omega) (by omega), show (i : Int) + 1 = ((i + 1 : Nat) : Int) by omega]
    cases letv (bt b (i : Int)) with
    | true =>
      simp only [if_true, Bool.true_or, Bool.true_and]; exact accountingref06_Code.go b hb n (i + 1) (by omega)
    | false =>
      simp only [Bool.false_eq_true, if_false, Bool.false_or]
      cases digv (bt b (i : Int)) with
      | true =>
        simp only [if_true, Bool.true_and]; exact accountingref06_Code.go b hb n (i + 1) (by omega)
      | false => exact Ev.const _
theorem accountingref06_Code.eq (b : ByteArray) (hb : b.size ≤ 1000000000000000) : Ev (fun k => accountingref06_Code.f k b) (codev b) := by
  unfold accountingref06_Code.f codev
  exact accountingref06_Code.go b hb b.size 0 (by omega)
abbrev TC := S59
abbrev rdC (l : List TC) (i : Int) : TC := rd_T59 l i
def cdv (l : List TC) : Nat → Nat → Bool
  | 0, _ => true
  | n + 1, i => codev (rdC l (i : Int)).f0 && (codev (rdC l (i : Int)).f1 && (ratev (rdC l (i : Int)).f2.f0 (rdC l (i : Int)).f2.f1 && ((decide (i = 0) || Op.bytesLess (rdC l ((i : Int) - 1)).f0.toList (rdC l (i : Int)).f0.toList) && cdv l n (i + 1))))
def codesv (l : List TC) : Bool := decide ((l.length : Int) ≤ 200) && cdv l l.length 0
def TCok (l : List TC) : Prop := ∀ y ∈ l, (y.f0.size ≤ 1000000000000000 ∧ y.f1.size ≤ 1000000000000000) ∧ inI y.f2.f0 ∧ inI y.f2.f1
theorem rdC_mem {l : List TC} {i : Nat} (h : i < l.length) : rdC l (i : Int) ∈ l := by
  show l.getD (i : Int).toNat _ ∈ l; rw [Int.toNat_natCast, List.getD_eq_getElem?_getD, List.getElem?_eq_getElem h]; exact List.getElem_mem h
theorem tax_Codes.go (l : List TC) (hl : l.length ≤ 200) (ho : TCok l) : ∀ n i, i + n = l.length → Ev (fun k => tax_Codes.l0 k l l (l.length : Int) (i : Int)) (cdv l n i)
  | 0, i, h => by
    refine Ev.succ ?_; simp only [tax_Codes.l0, if_neg (show ¬ (i : Int) < (l.length : Int) by omega)]; exact Ev.const _
  | n + 1, i, h => by
    have hm := ho _ (rdC_mem (l := l) (i := i) (by omega)); refine Ev.succ ?_; simp only [tax_Codes.l0, if_pos (show (i : Int) < (l.length : Int) by omega), if_pos (show (0 : Int) ≤ (i : Int) by omega)]
    unfold cdv
    refine Ev.bind (words_Code.eq _) ?_
    cases codev (rdC l (i : Int)).f0 with
    | false => exact Ev.const _
    | true =>
      simp only [if_true, Bool.true_and]; refine Ev.bind (words_Code.eq _) ?_
      cases codev (rdC l (i : Int)).f1 with
      | false => exact Ev.const _
      | true =>
        simp only [if_true, Bool.true_and]; refine Ev.bind (tax_rate.eq hm.2.1 hm.2.2) ?_
        cases ratev (rdC l (i : Int)).f2.f0 (rdC l (i : Int)).f2.f1 with
        | false => exact Ev.const _
        | true =>
          simp only [if_true, Bool.true_and]; rw [w64 (n := (i : Int) + 1) (by omega) (by omega), show (i : Int) + 1 = ((i + 1 : Nat) : Int) by omega]
          by_cases c : (i : Int) > 0
          · rw [w64 (n := (i : Int) - 1) (by omega) (by omega)]; simp only [if_pos c, if_pos (show (0 : Int) ≤ (i : Int) - 1 by omega), if_pos (show (i : Int) - 1 < (l.length : Int) by omega), decide_eq_false (show ¬ i = 0 by omega), Bool.false_or]
            by_cases e : Op.bytesLess (rdC l ((i : Int) - 1)).f0.toList (rdC l (i : Int)).f0.toList = true
            · rw [e]; simp only [if_pos e, Bool.true_and]; exact tax_Codes.go l hl ho n (i + 1) (by omega)
            · simp only [if_neg e, Bool.eq_false_iff.2 e, Bool.false_and]; exact Ev.const _
          · simp only [if_neg c, decide_eq_true (show i = 0 by omega), Bool.true_or, Bool.true_and]; exact tax_Codes.go l hl ho n (i + 1) (by omega)
theorem tax_Codes.eq {l : List TC} (ho : TCok l) : Ev (fun k => tax_Codes.f k l) (codesv l) := by
  unfold tax_Codes.f codesv
  by_cases c : (l.length : Int) > 200
  · simp only [if_pos c, decide_eq_false (show ¬ (l.length : Int) ≤ 200 by omega), Bool.false_and]; exact Ev.const _
  · simp only [if_neg c, decide_eq_true (show (l.length : Int) ≤ 200 by omega), Bool.true_and]; exact tax_Codes.go l (by omega) ho l.length 0 (by omega)
theorem accountingref25_Codes.go (l : List TC) (hl : l.length ≤ 200) (ho : TCok l) : ∀ n i, i + n = l.length → Ev (fun k => accountingref25_Codes.l0 k l (i : Int)) (cdv l n i)
  | 0, i, h => by
    refine Ev.succ ?_; simp only [accountingref25_Codes.l0, if_neg (show ¬ (i : Int) < (l.length : Int) by omega)]; exact Ev.const _
  | n + 1, i, h => by
    have hm := ho _ (rdC_mem (l := l) (i := i) (by omega)); refine Ev.succ ?_; simp only [accountingref25_Codes.l0, if_pos (show (i : Int) < (l.length : Int) by omega), if_pos (show (0 : Int) ≤ (i : Int) by omega)]
    unfold cdv
    refine Ev.bind (accountingref06_Code.eq _ hm.1.1) ?_
    cases codev (rdC l (i : Int)).f0 with
    | false => exact Ev.const _
    | true =>
      simp only [if_true, Bool.true_and]; refine Ev.bind (accountingref06_Code.eq _ hm.1.2) ?_
      cases codev (rdC l (i : Int)).f1 with
      | false => exact Ev.const _
      | true =>
        simp only [if_true, Bool.true_and]; refine Ev.bind (accountingref25_Rate.eq hm.2.1 hm.2.2) ?_
        cases ratev (rdC l (i : Int)).f2.f0 (rdC l (i : Int)).f2.f1 with
        | false => exact Ev.const _
        | true =>
          simp only [if_true, Bool.true_and]; rw [w64 (n := (i : Int) + 1) (by omega) (by omega), show (i : Int) + 1 = ((i + 1 : Nat) : Int) by omega]
          by_cases c : (i : Int) > 0
          · rw [w64 (n := (i : Int) - 1) (by omega) (by omega)]; simp only [if_pos c, if_pos (show (0 : Int) ≤ (i : Int) - 1 by omega), if_pos (show (i : Int) - 1 < (l.length : Int) by omega), decide_eq_false (show ¬ i = 0 by omega), Bool.false_or]
            by_cases e : Op.bytesLess (rdC l ((i : Int) - 1)).f0.toList (rdC l (i : Int)).f0.toList = true
            · rw [e]; simp only [if_pos e, Bool.true_and]; exact accountingref25_Codes.go l hl ho n (i + 1) (by omega)
            · simp only [if_neg e, Bool.eq_false_iff.2 e, Bool.false_and]; exact Ev.const _
          · simp only [if_neg c, decide_eq_true (show i = 0 by omega), Bool.true_or, Bool.true_and]; exact accountingref25_Codes.go l hl ho n (i + 1) (by omega)
theorem accountingref25_Codes.eq {l : List TC} (ho : TCok l) : Ev (fun k => accountingref25_Codes.f k l) (codesv l) := by
  unfold accountingref25_Codes.f codesv
  by_cases c : (l.length : Int) > 200
  · simp only [if_pos c, decide_eq_false (show ¬ (l.length : Int) ≤ 200 by omega), Bool.false_and]; exact Ev.const _
  · simp only [if_neg c, decide_eq_true (show (l.length : Int) ≤ 200 by omega), Bool.true_and]; exact accountingref25_Codes.go l (by omega) ho l.length 0 (by omega)
end Go.Proofs.Ytgjpegmhlnabpaa.M
end
