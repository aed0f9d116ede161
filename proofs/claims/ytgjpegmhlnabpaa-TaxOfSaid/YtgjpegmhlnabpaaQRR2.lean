/- What the claims of this seat share, part 2 of 2: what the program's functions compute. -/
import Derived.Test.YtgjpegmhlnabpaaQRR1
section
namespace Go.Proofs.Ytgjpegmhlnabpaa.M
open Go.RowKit Go.Proofs.YtgjpegmhlnabpaaW.PrintWords Dv
set_option linter.unusedVariables false
set_option linter.unusedSimpArgs false
theorem accountingref25_Rate.eq {n d : Int} (hn : inI n) (hd : inI d) : Ev (fun k => accountingref25_Rate.f k n d) (ratev n d) := by
  unfold accountingref25_Rate.f ratev
  refine Ev.bind (accountingref03_Right.eq hn hd) ?_
  cases rightv n d with
  | false => exact Ev.const _
  | true =>
    simp only [if_true, Bool.true_and]
    by_cases c : n ≥ 0
    · simp only [if_pos c, decide_eq_true c, Bool.true_and]; exact Ev.const _
    · simp only [if_neg c, decide_eq_false c, Bool.false_and]; exact Ev.const _
theorem accountingref25_large.eq {a m : Int} (h0 : 0 ≤ m) (h1 : m ≤ 1000000000000000) : accountingref25_large.f a m = some (decide (a > m ∨ a < -m)) := by
  unfold accountingref25_large.f
  rw [w64 (by omega) (by omega)]
  by_cases c : a > m
  · rw [if_pos c, decide_eq_true (Or.inl c)]
  · rw [if_neg c]
    by_cases e : a < -m
    · rw [decide_eq_true e, decide_eq_true (Or.inr e)]
    · rw [decide_eq_false e, decide_eq_false (by omega)]
theorem accountingref25_ask.eq {a n d mode : Int} (hn : inI n) (hd : inI d) : Ev (fun k => accountingref25_ask.f k a n d mode) (chkT a n d mode) := by
  unfold accountingref25_ask.f chkT
  by_cases c1 : mode < 1
  · simp only [if_pos c1, if_pos (show mode < 1 ∨ mode > 5 from Or.inl c1)]; refine Ev.succ ?_; simp only [accountingref25_ask.j0, if_true]; exact Ev.const _
  · simp only [if_neg c1]; refine Ev.succ ?_
    by_cases c2 : mode > 5
    · simp only [accountingref25_ask.j0, decide_eq_true c2, if_true, if_pos (show mode < 1 ∨ mode > 5 from Or.inr c2)]; exact Ev.const _
    · simp only [accountingref25_ask.j0, decide_eq_false c2, if_neg (show ¬ (mode < 1 ∨ mode > 5) by omega), Bool.false_eq_true, if_false]; refine Ev.bind (accountingref25_Rate.eq hn hd) ?_
      cases ratev n d with
      | false => exact Ev.const _
      | true =>
        simp only [if_true]; rw [show accountingref25_large.f a 1000000000000000 = some _ from accountingref25_large.eq (by omega) (by omega)]; simp only [Option.bind_some, decide_eq_true_eq]
        by_cases c3 : a > 1000000000000000 ∨ a < -1000000000000000
        · simp only [if_pos c3]; exact Ev.const _
        · simp only [if_neg c3]; exact Ev.const _
theorem accountingref25_On.eq {a n d mode : Int} (ha : inI a) (hn : inI n) (hd : inI d) : Ev (fun k => accountingref25_On.f k a n d mode) (onv a n d mode) := by
  unfold accountingref25_On.f onv
  refine Ev.bind (accountingref25_ask.eq hn hd) ?_
  by_cases c : chkT a n d mode = 0
  · simp only [if_pos c]; exact Ev.bind (accountingref02_MulDiv.eq mode ha hn hd) (Ev.const _)
  · simp only [if_neg c]; exact Ev.const _
theorem accountingref25_In.eq {a n d mode : Int} (ha : inI a) (hn : inI n) (hd : inI d) : Ev (fun k => accountingref25_In.f k a n d mode) (inv a n d mode) := by
  unfold accountingref25_In.f
  refine Ev.bind (accountingref25_ask.eq hn hd) ?_
  by_cases c : chkT a n d mode = 0
  · have hb := ratev_bounds (chkT_zero c).2.1; obtain ⟨hm, hr, hA⟩ := chkT_zero c; obtain ⟨t, h1, h2⟩ := mdv_near (b := n) (c := n + d) hA (by omega) (by omega) (by omega) hm
    unfold inv
    simp only [if_pos c]; rw [w64 (n := n + d) (by omega) (by omega)]; refine Ev.bind (accountingref02_MulDiv.eq mode ha hn (by unfold inI; omega)) ?_; rw [h1]; exact Ev.const _
  · unfold inv
    simp only [if_neg c]; exact Ev.const _
end Go.Proofs.Ytgjpegmhlnabpaa.M
end
