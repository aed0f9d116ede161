/- The law of the products, walked and shown. Part 5 of 5 of what is the claim's own. -/
import Derived.Test.YtoppdlideonjjaaQOw3
import Derived.Test.YtoppdlideonjjaaQBE4
import Derived.Test.YtoppdlideonjjaaQOw4
import Derived.Test.YtoppdlideonjjaaQOw1
import Derived.Test.YtoppdlideonjjaaRows
import Derived.WalkKit
import Derived.ProofKit
import Derived.OpenShut
import Derived.ShutString
import Derived.ChangeOld
import Derived.Below
import Derived.SizedLaws
section
/- What conversions come to, of the program and of the specification. -/
namespace Go.Proofs.Ytoppdlideonjjaa.M
open Go.RowKit Go.Proofs.YtoppdlideonjjaaW.PrintWords Go.Proofs.YtoppdlideonjjaaW.PrintLast Dv
set_option linter.unusedVariables false
set_option linter.unusedSimpArgs false
/-! ### what a checked product is -/
theorem codev_ne {b : ByteArray} (h : codev b = true) : b.toList ≠ ([] : List UInt8) := by
  intro e
  rw [size_nil] at e
  unfold codev at h
  simp [e] at h
theorem unitv_zero {b1 : ByteArray} {seen : List Uu} {u : Uu} (h : unitv b1 seen u = 0) : codev u.f0 = true ∧ u.f0.toList ≠ b1.toList ∧ seenU seen u.f0 = false ∧ rightv u.f1.f0 u.f1.f1 = true ∧ 0 < u.f1.f0 := by
  unfold unitv at h
  cases c0 : codev u.f0 with
  | false => rw [c0, if_pos rfl] at h; omega
  | true =>
    rw [c0, if_neg (by decide)] at h
    by_cases c1 : u.f0.toList = b1.toList
    · rw [if_pos c1] at h; omega
    rw [if_neg c1] at h
    cases c2 : seenU seen u.f0 with
    | true => rw [c2, if_pos rfl] at h; omega
    | false =>
      rw [c2, if_neg (by decide)] at h
      cases c3 : rightv u.f1.f0 u.f1.f1 with
      | false => rw [c3, if_neg (by decide)] at h; omega
      | true =>
        rw [c3, if_pos rfl] at h
        by_cases c4 : u.f1.f0 ≤ 0
        · rw [if_pos c4] at h; omega
        · exact ⟨rfl, c1, rfl, rfl, by omega⟩
theorem unitsv_zero {b1 : ByteArray} : ∀ (l seen : List Uu), unitsv b1 seen l = 0 → (∀ u ∈ l, codev u.f0 = true ∧ u.f0.toList ≠ b1.toList ∧ seenU seen u.f0 = false ∧ rightv u.f1.f0 u.f1.f1 = true ∧ 0 < u.f1.f0) ∧ l.Pairwise (fun u v => u.f0.toList ≠ v.f0.toList)
  | [], seen, h => ⟨fun u hu => by simp at hu, List.Pairwise.nil⟩
  | u :: r, seen, h => by
    unfold unitsv at h
    by_cases c : unitv b1 seen u = 0
    · rw [if_pos c] at h
      have hu := unitv_zero c
      obtain ⟨h1, h2⟩ := unitsv_zero r _ h
      have hs : ∀ v ∈ r, seenU seen v.f0 = false ∧ u.f0.toList ≠ v.f0.toList := fun v hv => by
        have h3 := (h1 v hv).2.2.1
        unfold seenU at h3 ⊢
        rw [List.any_append, Bool.or_eq_false_iff] at h3
        refine ⟨h3.1, fun e => ?_⟩
        have h4 := h3.2
        simp [e] at h4
      refine ⟨fun v hv => ?_, List.pairwise_cons.2 ⟨fun v hv => (hs v hv).2, h2⟩⟩
      rcases List.mem_cons.1 hv with rfl | hv
      · exact hu
      · obtain ⟨q1, q2, _, q4, q5⟩ := h1 v hv
        exact ⟨q1, q2, (hs v hv).1, q4, q5⟩
    · rw [if_neg c] at h
      exact absurd h c
structure GoodP (p : Pd) : Prop where
  c0 : codev p.f0 = true
  c1 : codev p.f1 = true
  us : ∀ u ∈ p.f4, codev u.f0 = true ∧ u.f0.toList ≠ p.f1.toList ∧ rightv u.f1.f0 u.f1.f1 = true ∧ 0 < u.f1.f0
  pw : p.f4.Pairwise (fun u v => u.f0.toList ≠ v.f0.toList)
  len : p.f4.length ≤ 10
theorem chkv_zero {p : Pd} (h : chkv p = 0) : GoodP p := by
  unfold chkv at h
  cases c0 : codev p.f0 with
  | false => rw [c0, if_pos rfl] at h; omega
  | true =>
    rw [c0, if_neg (by decide)] at h
    cases c1 : codev p.f1 with
    | false => rw [c1, if_pos rfl] at h; omega
    | true =>
      rw [c1, if_neg (by decide)] at h
      split at h
      · omega
      · split at h
        · omega
        · split at h
          · omega
          · obtain ⟨h1, h2⟩ := unitsv_zero p.f4 [] h
            exact ⟨c0, c1, fun u hu => ⟨(h1 u hu).1, (h1 u hu).2.1, (h1 u hu).2.2.2.1, (h1 u hu).2.2.2.2⟩, h2, by omega⟩
/-! ### the factor of a unit -/
def findU (l : List Uu) (s : ByteArray) : Option Uu := l.find? (fun u => u.f0.toList == s.toList)
def facv (p : Pd) (s : ByteArray) : Option (Int × Int) :=
  if s.toList = ([] : List UInt8) ∨ s.toList = p.f1.toList then some (1, 1) else (findU p.f4 s).map (fun u => (u.f1.f0, u.f1.f1))
def largev (n : Int) : Bool := decide (n > 1000000000) || decide (n < -1000000000)
theorem items_large.eq (n : Int) : items_large.f n = some (largev n) := by
  unfold items_large.f largev
  split
  · rename_i h; rw [decide_eq_true h]; rfl
  · rename_i h; rw [decide_eq_false h]; rfl
def convv (p : Pd) (n : Int) (s : ByteArray) : Int × Int × Int :=
  if chkv p = 0 then (match facv p s with
    | none => (0, 0, 22)
    | some q => if largev n = true then (0, 0, 3) else (q.1, q.2, 0)) else (0, 0, chkv p)
theorem find_item (l : List Uu) (hl : l.length ≤ 10000000000000) (s : ByteArray) : ∀ (m i : Nat), i + m = l.length → ∃ r : Int, Ev (fun k => api_Unit_64__items_factor_1.l0 k l (l.length : Int) (i : Int) s) (r, s) ∧ ((r < 0 ∧ findU (l.drop i) s = none) ∨ ∃ j : Nat, r = (j : Int) ∧ ∃ h : j < l.length, findU (l.drop i) s = some l[j])
  | 0, i, h => by
    refine ⟨-1, Ev.succ ?_, .inl ⟨by omega, ?_⟩⟩
    · simp only [api_Unit_64__items_factor_1.l0, if_neg (show ¬ (i : Int) < (l.length : Int) by omega)]
      exact Ev.const _
    · rw [List.drop_eq_nil_of_le (by omega)]
      rfl
  | m + 1, i, h => by
    have hi : i < l.length := by omega
    rw [List.drop_eq_getElem_cons hi]
    unfold findU
    rw [List.find?_cons]
    by_cases c : l[i].f0.toList = s.toList
    · refine ⟨(i : Int), Ev.succ ?_, .inr ⟨i, rfl, hi, ?_⟩⟩
      · simp only [api_Unit_64__items_factor_1.l0, if_pos (show (i : Int) < (l.length : Int) by omega), if_pos (show 0 ≤ (i : Int) by omega), items_factor_1.f, Option.bind_some, show rd_T61 l (i : Int) = l[i] from rdU_at l i hi, c, beq_self_eq_true, if_true]
        exact Ev.const _
      · rw [c, beq_self_eq_true]
    · obtain ⟨r, h1, h2⟩ := find_item l hl s m (i + 1) (by omega)
      refine ⟨r, Ev.succ ?_, ?_⟩
      · simp only [api_Unit_64__items_factor_1.l0, if_pos (show (i : Int) < (l.length : Int) by omega), if_pos (show 0 ≤ (i : Int) by omega), items_factor_1.f, Option.bind_some, show rd_T61 l (i : Int) = l[i] from rdU_at l i hi, beq_eq_false_iff_ne.mpr c, Bool.false_eq_true, if_false, w64 (show -9223372036854775808 ≤ (i : Int) + 1 by omega) (by omega)]
        exact h1
      · rw [beq_eq_false_iff_ne.mpr c]
        exact h2
theorem items_factor.eq (p : Pd) (hl : p.f4.length ≤ 10000000000000) (s : ByteArray) : Ev (fun k => items_factor.f k p.f0 p.f1 p.f2 p.f3 p.f4 s) (match facv p s with | none => (0, 0, false) | some q => (q.1, q.2, true)) := by
  have h1 : Ev (fun k => items_factor.j0 k true p.f0 p.f1 p.f2 p.f3 p.f4 s) (1, 1, true) := Ev.succ (by simp only [items_factor.j0, if_true]; exact Ev.const _)
  unfold items_factor.f facv
  by_cases c0 : s.toList = ([] : List UInt8)
  · simp only [if_pos c0, if_pos (show s.toList = ([] : List UInt8) ∨ s.toList = p.f1.toList from .inl c0)]
    exact h1
  simp only [if_neg c0]
  by_cases c1 : s.toList = p.f1.toList
  · simp only [c1, beq_self_eq_true, if_pos (show (p.f1.toList = ([] : List UInt8) ∨ True) from .inr trivial)]
    exact h1
  · simp only [beq_eq_false_iff_ne.mpr c1, if_neg (show ¬ (s.toList = ([] : List UInt8) ∨ s.toList = p.f1.toList) from fun h => h.elim c0 c1)]
    refine Ev.succ ?_
    simp only [items_factor.j0, Bool.false_eq_true, if_false]
    obtain ⟨r, h2, h3⟩ := find_item p.f4 hl s p.f4.length 0 (by omega)
    rw [List.drop_zero] at h3
    refine Ev.bind (a := (r, s)) (by unfold api_Unit_64__items_factor_1.f; exact h2) ?_
    dsimp only
    rcases h3 with ⟨h3, h4⟩ | ⟨j, rfl, hj, h4⟩
    · simp only [if_pos h3, h4]
      exact Ev.const _
    · simp only [if_neg (show ¬ (j : Int) < 0 by omega), if_pos (show 0 ≤ (j : Int) by omega), if_pos (show (j : Int) < (p.f4.length : Int) by omega), h4, Option.map_some, show rd_T61 p.f4 (j : Int) = p.f4[j] from rdU_at p.f4 j hj]
      exact Ev.const _
theorem items_convertible.eq (p : Pd) (hl : p.f4.length ≤ 10000000000000) (hg : ∀ u ∈ p.f4, inI u.f1.f0 ∧ inI u.f1.f1) (n : Int) (s : ByteArray) : Ev (fun k => items_convertible.f k p.f0 p.f1 p.f2 p.f3 p.f4 n s) (convv p n s) := by
  unfold items_convertible.f convv
  refine Ev.bind (items_Check.eq p hl hg) ?_
  by_cases c : chkv p = 0
  · simp only [if_pos c]
    refine Ev.bind (items_factor.eq p hl s) ?_
    cases facv p s with
    | none => simp only [Bool.false_eq_true, if_false]; exact Ev.const _
    | some q =>
      simp only [if_true, items_large.eq, Option.bind_some]
      split <;> exact Ev.const _
  · simp only [if_neg c]
    exact Ev.const _
/-! ### the specification's -/
def lastU (s : ByteArray) (l : List Uu) (q : Int × Int) : Int × Int := l.foldl (fun q u => if u.f0.toList = s.toList then (u.f1.f0, u.f1.f1) else q) q
def finv (n : Int) (q : Int × Int) : Int × Int × Int := if q.2 = 0 then (0, 0, 22) else if largev n = true then (0, 0, 3) else (q.1, q.2, 0)
theorem fac_go (p : Pd) (hl : p.f4.length ≤ 10000000000000) (n : Int) (s : ByteArray) : ∀ (m i : Nat) (q : Int × Int), i + m = p.f4.length → Ev (fun k => accountingref32_factor.l0 k n s (i : Int) p.f0 p.f1 p.f2 p.f3 p.f4 q.1 q.2) (finv n (lastU s (p.f4.drop i) q))
  | 0, i, q, h => by
    refine Ev.succ ?_
    rw [List.drop_eq_nil_of_le (by omega)]
    simp only [accountingref32_factor.l0, if_neg (show ¬ (i : Int) < (p.f4.length : Int) by omega), lastU, List.foldl_nil, finv, largev]
    by_cases c0 : q.2 = 0
    · simp only [c0, if_true]; exact Ev.const _
    simp only [c0, if_false]
    by_cases c1 : n > 1000000000
    · simp only [if_pos c1, decide_eq_true c1, Bool.true_or, if_true]; exact Ev.const _
    simp only [if_neg c1, decide_eq_false c1, Bool.false_or]
    by_cases c2 : n < -1000000000
    · simp only [if_pos c2, decide_eq_true c2, if_true]; exact Ev.const _
    · simp only [if_neg c2, decide_eq_false c2, Bool.false_eq_true, if_false]; exact Ev.const _
  | m + 1, i, q, h => by
    have hi : i < p.f4.length := by omega
    rw [List.drop_eq_getElem_cons hi]
    refine Ev.succ ?_
    simp only [accountingref32_factor.l0, if_pos (show (i : Int) < (p.f4.length : Int) by omega), if_pos (show 0 ≤ (i : Int) by omega), show rd_T61 p.f4 (i : Int) = p.f4[i] from rdU_at p.f4 i hi, w64 (show -9223372036854775808 ≤ (i : Int) + 1 by omega) (by omega), lastU, List.foldl_cons]
    by_cases c : p.f4[i].f0.toList = s.toList
    · simp only [if_pos c]
      exact fac_go p hl n s m (i + 1) (p.f4[i].f1.f0, p.f4[i].f1.f1) (by omega)
    · simp only [if_neg c]
      exact fac_go p hl n s m (i + 1) q (by omega)
theorem lastU_none (s : ByteArray) : ∀ (l : List Uu) (q : Int × Int), (∀ u ∈ l, u.f0.toList ≠ s.toList) → lastU s l q = q
  | [], q, h => rfl
  | u :: r, q, h => by
    unfold lastU
    rw [List.foldl_cons, if_neg (h u List.mem_cons_self)]
    exact lastU_none s r q (fun v hv => h v (List.mem_cons_of_mem _ hv))
theorem lastU_find (s : ByteArray) : ∀ (l : List Uu) (q : Int × Int), l.Pairwise (fun u v => u.f0.toList ≠ v.f0.toList) → lastU s l q = ((findU l s).map (fun u => (u.f1.f0, u.f1.f1))).getD q
  | [], q, h => rfl
  | u :: r, q, h => by
    obtain ⟨h1, h2⟩ := List.pairwise_cons.1 h
    unfold findU
    rw [List.find?_cons]
    by_cases c : u.f0.toList = s.toList
    · rw [c, beq_self_eq_true]
      have e : lastU s (u :: r) q = lastU s r (u.f1.f0, u.f1.f1) := by unfold lastU; rw [List.foldl_cons, if_pos c]
      rw [e, lastU_none s r _ (fun v hv e => h1 v hv (c.trans e.symm))]
      rfl
    · rw [beq_eq_false_iff_ne.mpr c]
      have e : lastU s (u :: r) q = lastU s r q := by unfold lastU; rw [List.foldl_cons, if_neg c]
      rw [e]
      exact lastU_find s r q h2
theorem accountingref32_factor.eq (p : Pd) (hl : p.f4.length ≤ 10000000000000) (hg : ∀ u ∈ p.f4, inI u.f1.f0 ∧ inI u.f1.f1) (hs : ∀ u ∈ p.f4, u.f0.size ≤ 1000000000000000) (h0 : p.f0.size ≤ 1000000000000000) (h1 : p.f1.size ≤ 1000000000000000) (n : Int) (s : ByteArray) : Ev (fun k => accountingref32_factor.f k p.f0 p.f1 p.f2 p.f3 p.f4 n s) (convv p n s) := by
  unfold accountingref32_factor.f convv
  refine Ev.bind (accountingref32_Check.eq p hl hg hs h0 h1) ?_
  by_cases c : chkv p = 0
  · simp only [if_pos c]
    have hp := chkv_zero c
    have hj1 : ∀ a b : Int, Ev (fun k => accountingref32_factor.j1 k n s p.f0 p.f1 p.f2 p.f3 p.f4 a b) (finv n (lastU s p.f4 (a, b))) := fun a b => Ev.succ (by
      simp only [accountingref32_factor.j1]
      exact fac_go p hl n s p.f4.length 0 (a, b) (by omega))
    have hone : (∀ u ∈ p.f4, u.f0.toList ≠ s.toList) → Ev (fun k => accountingref32_factor.j0 k n s true p.f0 p.f1 p.f2 p.f3 p.f4 0 0) (if largev n = true then (0, 0, 3) else (1, 1, 0)) := fun hno => Ev.succ (by
      simp only [accountingref32_factor.j0, if_true]
      have := hj1 1 1
      rw [lastU_none s p.f4 _ hno] at this
      exact this)
    unfold facv
    by_cases c0 : s.toList = ([] : List UInt8)
    · simp only [if_pos c0, if_pos (show s.toList = ([] : List UInt8) ∨ s.toList = p.f1.toList from .inl c0)]
      exact hone (fun u hu e => codev_ne (hp.us u hu).1 (e.trans c0))
    simp only [if_neg c0]
    by_cases c1 : s.toList = p.f1.toList
    · simp only [c1, beq_self_eq_true, if_pos (show (p.f1.toList = ([] : List UInt8) ∨ True) from .inr trivial)]
      exact hone (fun u hu e => (hp.us u hu).2.1 (e.trans c1))
    · simp only [beq_eq_false_iff_ne.mpr c1, if_neg (show ¬ (s.toList = ([] : List UInt8) ∨ s.toList = p.f1.toList) from fun h => h.elim c0 c1)]
      refine Ev.succ ?_
      simp only [accountingref32_factor.j0, Bool.false_eq_true, if_false]
      have h2 := hj1 0 0
      rw [lastU_find s p.f4 _ hp.pw] at h2
      cases hf : findU p.f4 s with
      | none =>
        rw [hf] at h2
        exact h2
      | some u =>
        rw [hf] at h2
        have hu := List.mem_of_find?_eq_some hf
        have hr := rightv_bounds (hp.us u hu).2.2.1
        simp only [Option.map_some, Option.getD_some, finv, if_neg (show ¬ u.f1.f1 = 0 by omega)] at h2
        exact h2
  · simp only [if_neg c]
    exact Ev.const _
/-! ### the conversions -/
def tov (p : Pd) (n : Int) (s : ByteArray) : Int × Int :=
  if (convv p n s).2.2 = 0 then (if Int.tmod (wrap64 (n * (convv p n s).1)) (convv p n s).2.1 = 0 then (if largev (wrap64 (Int.tdiv (wrap64 (n * (convv p n s).1)) (convv p n s).2.1)) = true then (0, 4) else (wrap64 (Int.tdiv (wrap64 (n * (convv p n s).1)) (convv p n s).2.1), 0)) else (0, 2)) else (0, (convv p n s).2.2)
theorem facv_bounds {p : Pd} (h : chkv p = 0) {s : ByteArray} {q : Int × Int} (hq : facv p s = some q) : 1 ≤ q.1 ∧ q.1 ≤ 1000000 ∧ 1 ≤ q.2 ∧ q.2 ≤ 1000000 ∧ rightv q.1 q.2 = true := by
  unfold facv at hq
  split at hq
  · obtain rfl := Option.some.inj hq
    exact ⟨by decide, by decide, by decide, by decide, by decide⟩
  · cases hf : findU p.f4 s with
    | none => rw [hf] at hq; cases hq
    | some u =>
      rw [hf] at hq
      obtain rfl := Option.some.inj hq
      have hu := (chkv_zero h).us u (List.mem_of_find?_eq_some hf)
      have hr := rightv_bounds hu.2.2.1
      exact ⟨hu.2.2.2, hr.2.2.2, hr.1, hr.2.1, hu.2.2.1⟩
theorem convv_ok {p : Pd} {n : Int} {s : ByteArray} (h : (convv p n s).2.2 = 0) : chkv p = 0 ∧ facv p s = some ((convv p n s).1, (convv p n s).2.1) ∧ -1000000000 ≤ n ∧ n ≤ 1000000000 ∧ 1 ≤ (convv p n s).1 ∧ (convv p n s).1 ≤ 1000000 ∧ 1 ≤ (convv p n s).2.1 ∧ (convv p n s).2.1 ≤ 1000000 ∧ rightv (convv p n s).1 (convv p n s).2.1 = true := by
  unfold convv at h ⊢
  by_cases c : chkv p = 0
  · simp only [if_pos c] at h ⊢
    cases hf : facv p s with
    | none => rw [hf] at h; simp at h
    | some q =>
      rw [hf] at h
      dsimp only at h ⊢
      cases hl : largev n with
      | true => rw [hl] at h; simp at h
      | false =>
        simp only [Bool.false_eq_true, if_false]
        have hb := facv_bounds c hf
        unfold largev at hl
        simp only [Bool.or_eq_false_iff, decide_eq_false_iff_not] at hl
        exact ⟨c, trivial, by omega, by omega, hb⟩
  · simp only [if_neg c] at h
    exact absurd h c
theorem items_To.eq (p : Pd) (hl : p.f4.length ≤ 10000000000000) (hg : ∀ u ∈ p.f4, inI u.f1.f0 ∧ inI u.f1.f1) (n : Int) (s : ByteArray) : Ev (fun k => items_To.f k p.f0 p.f1 p.f2 p.f3 p.f4 n s) (tov p n s) := by
  unfold items_To.f tov
  refine Ev.bind (items_convertible.eq p hl hg n s) ?_
  by_cases c : (convv p n s).2.2 = 0
  · simp only [if_pos c]
    have hb := convv_ok c
    simp only [if_neg (show ¬ (convv p n s).2.1 = 0 by omega)]
    split
    · simp only [items_large.eq, Option.bind_some]
      split <;> exact Ev.const _
    · exact Ev.const _
  · simp only [if_neg c]
    exact Ev.const _
theorem accountingref32_To.eq (p : Pd) (hl : p.f4.length ≤ 10000000000000) (hg : ∀ u ∈ p.f4, inI u.f1.f0 ∧ inI u.f1.f1) (hs : ∀ u ∈ p.f4, u.f0.size ≤ 1000000000000000) (h0 : p.f0.size ≤ 1000000000000000) (h1 : p.f1.size ≤ 1000000000000000) (n : Int) (s : ByteArray) : Ev (fun k => accountingref32_To.f k p.f0 p.f1 p.f2 p.f3 p.f4 n s) (tov p n s) := by
  unfold accountingref32_To.f tov
  refine Ev.bind (accountingref32_factor.eq p hl hg hs h0 h1 n s) ?_
  by_cases c : (convv p n s).2.2 = 0
  · simp only [if_pos c]
    have hb := convv_ok c
    simp only [if_neg (show ¬ (convv p n s).2.1 = 0 by omega)]
    split
    · unfold largev
      by_cases c1 : wrap64 (Int.tdiv (wrap64 (n * (convv p n s).1)) (convv p n s).2.1) > 1000000000
      · simp only [if_pos c1, decide_eq_true c1, Bool.true_or, if_true]; exact Ev.const _
      simp only [if_neg c1, decide_eq_false c1, Bool.false_or]
      by_cases c2 : wrap64 (Int.tdiv (wrap64 (n * (convv p n s).1)) (convv p n s).2.1) < -1000000000
      · simp only [if_pos c2, decide_eq_true c2, if_true]; exact Ev.const _
      · simp only [if_neg c2, decide_eq_false c2, Bool.false_eq_true, if_false]; exact Ev.const _
    · exact Ev.const _
  · simp only [if_neg c]
    exact Ev.const _
end Go.Proofs.Ytoppdlideonjjaa.M
end
section
/- What Make and From come to. -/
namespace Go.Proofs.Ytoppdlideonjjaa.M
open Go.RowKit Go.Proofs.YtoppdlideonjjaaW.PrintWords Go.Proofs.YtoppdlideonjjaaW.PrintLast Dv
set_option linter.unusedVariables false
set_option linter.unusedSimpArgs false
def gd (n d : Int) : Int := ((Nat.gcd (ab n).toNat (ab d).toNat : Nat) : Int)
def makev (n d : Int) : Int × Int × Int :=
  if d = 0 then (0, 0, 2) else if ab n / gd n d > 1000000 ∨ ab d / gd n d > 1000000 then (0, 0, 4) else (if ((decide (n < 0)) != (decide (d < 0))) = true then -(ab n / gd n d) else ab n / gd n d, ab d / gd n d, 0)
theorem gd_pos {n d : Int} (h : d ≠ 0) : 0 < gd n d := by
  unfold gd
  have h1 := ab_pos h
  have : 0 < Nat.gcd (ab n).toNat (ab d).toNat := Nat.gcd_pos_of_pos_right _ (by omega)
  omega
theorem div_range {x g : Int} (h0 : 0 ≤ x) (hg : 0 < g) : 0 ≤ x / g ∧ x / g ≤ x := ⟨Int.ediv_nonneg h0 (by omega), Int.ediv_le_self _ h0⟩
theorem frac_Make.eq {n d : Int} (hn : inI n) (hd : inI d) : Ev (fun k => frac_Make.f k n d) (makev n d) := by
  have bn := ab_bound hn
  have bd := ab_bound hd
  unfold frac_Make.f makev
  by_cases c : d = 0
  · simp only [if_pos c]; exact Ev.const _
  simp only [if_neg c, frac_size.eq hn, frac_size.eq hd, Option.bind_some]
  have hg := gd_pos (n := n) c
  refine Ev.bind (a := gd n d) (frac_gcd.go _ _ _ (Nat.le_refl _) bn.1 bd.1) ?_
  have e1 : Int.tdiv (ab n) (gd n d) = ab n / gd n d := Int.tdiv_eq_ediv_of_nonneg bn.1
  have e2 : Int.tdiv (ab d) (gd n d) = ab d / gd n d := Int.tdiv_eq_ediv_of_nonneg bd.1
  have r1 := div_range bn.1 hg
  have r2 := div_range bd.1 hg
  simp only [if_neg (show ¬ gd n d = 0 by omega), e1, e2, u64w r1.1 (by omega), u64w r2.1 (by omega)]
  have hj : Ev (fun k => frac_Make.j0 k n d (ab n / gd n d) (ab d / gd n d) true 0 0) (0, 0, 4) := Ev.succ (by simp only [frac_Make.j0, if_true]; exact Ev.const _)
  by_cases c1 : ab n / gd n d > 1000000
  · simp only [if_pos c1, if_pos (show ab n / gd n d > 1000000 ∨ ab d / gd n d > 1000000 from .inl c1)]; exact hj
  simp only [if_neg c1]
  by_cases c2 : ab d / gd n d > 1000000
  · simp only [decide_eq_true c2, if_pos (show ab n / gd n d > 1000000 ∨ ab d / gd n d > 1000000 from .inr c2)]; exact hj
  simp only [decide_eq_false c2, if_neg (show ¬ (ab n / gd n d > 1000000 ∨ ab d / gd n d > 1000000) by omega)]
  refine Ev.succ ?_
  simp only [frac_Make.j0, Bool.false_eq_true, if_false, w64 (show -9223372036854775808 ≤ ab n / gd n d by omega) (by omega), w64 (show -9223372036854775808 ≤ ab d / gd n d by omega) (by omega), w64 (show -9223372036854775808 ≤ -(ab n / gd n d) by omega) (by omega)]
  split <;> exact Ev.const _
theorem accountingref03_Make.eq {n d : Int} (hn : inI n) (hd : inI d) : Ev (fun k => accountingref03_Make.f k n d) (makev n d) := by
  have bn := ab_bound hn
  have bd := ab_bound hd
  unfold accountingref03_Make.f makev
  by_cases c : d = 0
  · simp only [if_pos c]; exact Ev.const _
  simp only [if_neg c, accountingref03_size.eq hn, accountingref03_size.eq hd, Option.bind_some]
  have hg := gd_pos (n := n) c
  refine Ev.bind (a := gd n d) (accountingref03_divisor.go _ _ _ (Nat.le_refl _) bn.1 bd.1) ?_
  have e1 : Int.tdiv (ab n) (gd n d) = ab n / gd n d := Int.tdiv_eq_ediv_of_nonneg bn.1
  have e2 : Int.tdiv (ab d) (gd n d) = ab d / gd n d := Int.tdiv_eq_ediv_of_nonneg bd.1
  have r1 := div_range bn.1 hg
  have r2 := div_range bd.1 hg
  simp only [if_neg (show ¬ gd n d = 0 by omega), e1, e2, u64w r1.1 (by omega), u64w r2.1 (by omega)]
  have hj : Ev (fun k => accountingref03_Make.j0 k n d (ab n / gd n d) (ab d / gd n d) true) (0, 0, 4) := Ev.succ (by simp only [accountingref03_Make.j0, if_true]; exact Ev.const _)
  by_cases c1 : ab n / gd n d > 1000000
  · simp only [if_pos c1, if_pos (show ab n / gd n d > 1000000 ∨ ab d / gd n d > 1000000 from .inl c1)]; exact hj
  simp only [if_neg c1]
  by_cases c2 : ab d / gd n d > 1000000
  · simp only [decide_eq_true c2, if_pos (show ab n / gd n d > 1000000 ∨ ab d / gd n d > 1000000 from .inr c2)]; exact hj
  simp only [decide_eq_false c2, if_neg (show ¬ (ab n / gd n d > 1000000 ∨ ab d / gd n d > 1000000) by omega)]
  refine Ev.succ ?_
  simp only [accountingref03_Make.j0, Bool.false_eq_true, if_false, w64 (show -9223372036854775808 ≤ ab n / gd n d by omega) (by omega), w64 (show -9223372036854775808 ≤ ab d / gd n d by omega) (by omega), w64 (show -9223372036854775808 ≤ -(ab n / gd n d) by omega) (by omega)]
  split <;> exact Ev.const _
theorem inI_wrap (n : Int) : inI (wrap64 n) := by unfold inI wrap64; omega
def fromv (p : Pd) (n : Int) (s : ByteArray) : Int × Int × Int :=
  if (convv p n s).2.2 = 0 then makev (wrap64 (n * (convv p n s).2.1)) (convv p n s).1 else (0, 0, (convv p n s).2.2)
theorem items_From.eq (p : Pd) (hl : p.f4.length ≤ 10000000000000) (hg : ∀ u ∈ p.f4, inI u.f1.f0 ∧ inI u.f1.f1) (n : Int) (s : ByteArray) : Ev (fun k => items_From.f k p.f0 p.f1 p.f2 p.f3 p.f4 n s) (fromv p n s) := by
  unfold items_From.f fromv
  refine Ev.bind (items_convertible.eq p hl hg n s) ?_
  by_cases c : (convv p n s).2.2 = 0
  · simp only [if_pos c]
    have hb := convv_ok c
    refine Ev.bind (frac_Make.eq (inI_wrap _) (by unfold inI; omega)) (Ev.const _)
  · simp only [if_neg c]
    exact Ev.const _
theorem accountingref32_From.eq (p : Pd) (hl : p.f4.length ≤ 10000000000000) (hg : ∀ u ∈ p.f4, inI u.f1.f0 ∧ inI u.f1.f1) (hs : ∀ u ∈ p.f4, u.f0.size ≤ 1000000000000000) (h0 : p.f0.size ≤ 1000000000000000) (h1 : p.f1.size ≤ 1000000000000000) (n : Int) (s : ByteArray) : Ev (fun k => accountingref32_From.f k p.f0 p.f1 p.f2 p.f3 p.f4 n s) (fromv p n s) := by
  unfold accountingref32_From.f fromv
  refine Ev.bind (accountingref32_factor.eq p hl hg hs h0 h1 n s) ?_
  by_cases c : (convv p n s).2.2 = 0
  · simp only [if_pos c]
    have hb := convv_ok c
    refine Ev.bind (accountingref03_Make.eq (inI_wrap _) (by unfold inI; omega)) (Ev.const _)
  · simp only [if_neg c]
    exact Ev.const _
end Go.Proofs.Ytoppdlideonjjaa.M
end
section
/- Large products; fractions in lowest terms; the examples. -/
namespace Go.Proofs.Ytoppdlideonjjaa.M
open Go.RowKit Go.Proofs.YtoppdlideonjjaaW.PrintWords Go.Proofs.YtoppdlideonjjaaW.PrintLast Dv
set_option linter.unusedVariables false
set_option linter.unusedSimpArgs false
structure LightP (p : Pd) : Prop where
  len : p.f4.length ≤ 40
  us : ∀ u ∈ p.f4, u.f0.size ≤ 100
  cs : p.f0.size + p.f1.size ≤ 200
structure FineP (p : Pd) : Prop where
  len : p.f4.length ≤ 10000000000000
  us : ∀ u ∈ p.f4, u.f0.size ≤ 1000000000000000
  s0 : p.f0.size ≤ 1000000000000000
  s1 : p.f1.size ≤ 1000000000000000
  gs : ∀ u ∈ p.f4, inI u.f1.f0 ∧ inI u.f1.f1
theorem fine_of {p : Pd} (h : G24 p) : FineP p := by
  obtain ⟨h0, h1, h2, h3, h4, h5⟩ := h
  exact ⟨by omega, fun u hu => by have := (h5 u hu).1; omega, by omega, by omega, fun u hu => ⟨inI_wf (h5 u hu).2.1, inI_wf (h5 u hu).2.2⟩⟩
theorem large_go (p : Pd) (hl : p.f4.length ≤ 40) : ∀ (m i : Nat), i + m = p.f4.length → ∃ b, Ev (fun k => accountinglaw32_large.l0 k (i : Int) p.f0 p.f1 p.f2 p.f3 p.f4) b ∧ (b = false → ∀ u ∈ p.f4.drop i, u.f0.size ≤ 100)
  | 0, i, h => by
    refine ⟨false, Ev.succ ?_, fun _ u hu => ?_⟩
    · simp only [accountinglaw32_large.l0, if_neg (show ¬ (i : Int) < (p.f4.length : Int) by omega)]
      exact Ev.const _
    · rw [List.drop_eq_nil_of_le (by omega)] at hu
      simp at hu
  | m + 1, i, h => by
    have hi : i < p.f4.length := by omega
    rw [List.drop_eq_getElem_cons hi]
    by_cases c : (p.f4[i].f0.size : Int) > 100
    · refine ⟨true, Ev.succ ?_, fun e => by cases e⟩
      simp only [accountinglaw32_large.l0, if_pos (show (i : Int) < (p.f4.length : Int) by omega), if_pos (show 0 ≤ (i : Int) by omega), show rd_T61 p.f4 (i : Int) = p.f4[i] from rdU_at p.f4 i hi, if_pos c]
      exact Ev.const _
    · obtain ⟨b, h1, h2⟩ := large_go p hl m (i + 1) (by omega)
      refine ⟨b, Ev.succ ?_, fun e u hu => ?_⟩
      · simp only [accountinglaw32_large.l0, if_pos (show (i : Int) < (p.f4.length : Int) by omega), if_pos (show 0 ≤ (i : Int) by omega), show rd_T61 p.f4 (i : Int) = p.f4[i] from rdU_at p.f4 i hi, if_neg c, w64 (show -9223372036854775808 ≤ (i : Int) + 1 by omega) (by omega)]
        exact h1
      · rcases List.mem_cons.1 hu with rfl | hu
        · omega
        · exact h2 e u hu
theorem large_ev (p : Pd) (h0 : p.f0.size ≤ 1000000000000000) (h1 : p.f1.size ≤ 1000000000000000) : ∃ b, Ev (fun k => accountinglaw32_large.f k p.f0 p.f1 p.f2 p.f3 p.f4) b ∧ (b = false → LightP p) := by
  have ht : Ev (fun k => accountinglaw32_large.j0 k true p.f0 p.f1 p.f2 p.f3 p.f4) true := Ev.succ (by simp only [accountinglaw32_large.j0, if_true]; exact Ev.const _)
  by_cases c : (p.f4.length : Int) > 40
  · refine ⟨true, ?_, fun e => by cases e⟩
    unfold accountinglaw32_large.f
    simp only [if_pos c]
    exact ht
  have hw : wrap64 ((p.f0.size : Int) + (p.f1.size : Int)) = (p.f0.size : Int) + (p.f1.size : Int) := w64 (by omega) (by omega)
  by_cases c2 : (p.f0.size : Int) + (p.f1.size : Int) > 200
  · refine ⟨true, ?_, fun e => by cases e⟩
    unfold accountinglaw32_large.f
    simp only [if_neg c, hw, decide_eq_true c2]
    exact ht
  · obtain ⟨b, h3, h4⟩ := large_go p (by omega) p.f4.length 0 (by omega)
    refine ⟨b, ?_, fun e => ⟨by omega, fun u hu => h4 e u (by simpa using hu), by omega⟩⟩
    unfold accountinglaw32_large.f
    simp only [if_neg c, hw, decide_eq_false c2]
    refine Ev.succ ?_
    simp only [accountinglaw32_large.j0, Bool.false_eq_true, if_false]
    exact h3
theorem lives_ev : Ev (fun _ : Nat => accountinglaw32_lives.f.bind fun t => some t) true := ⟨0, fun _ _ => rfl⟩
/-! ### fractions -/
theorem ab_mul_pos (q a : Int) (ha : 0 < a) : ab (q * a) = ab q * a := by
  unfold ab
  by_cases c : q < 0
  · rw [if_pos c, if_pos (Int.mul_neg_of_neg_of_pos c ha), Int.neg_mul]
  · rw [if_neg c, if_neg (by have := Int.mul_nonneg (show 0 ≤ q by omega) (Int.le_of_lt ha); omega)]
theorem ab_nonneg' (q : Int) : 0 ≤ ab q := by unfold ab; split <;> omega
theorem ab_of_pos {a : Int} (h : 0 < a) : ab a = a := by unfold ab; rw [if_neg (by omega)]
theorem mk_scale (q a : Int) (ha : 0 < a) : makev (q * a) a = if ab q > 1000000 then (0, 0, 4) else (q, 1, 0) := by
  have hg : gd (q * a) a = a := by
    unfold gd
    rw [ab_mul_pos q a ha, ab_of_pos ha, Int.toNat_mul (ab_nonneg' q) (by omega), Nat.gcd_mul_left_left]
    omega
  unfold makev
  rw [if_neg (by omega), hg, ab_mul_pos q a ha, ab_of_pos ha, Int.mul_ediv_cancel _ (by omega), Int.ediv_self (by omega)]
  by_cases c : ab q > 1000000
  · rw [if_pos (.inl c), if_pos c]
  · rw [if_neg (by omega), if_neg c]
    unfold ab
    by_cases d : q < 0
    · have h1 : q * a < 0 := Int.mul_neg_of_neg_of_pos d ha
      simp [d, h1, show ¬ a < 0 by omega]
    · have h1 : ¬ q * a < 0 := by have := Int.mul_nonneg (show 0 ≤ q by omega) (Int.le_of_lt ha); omega
      simp [d, h1, show ¬ a < 0 by omega]
theorem mk_red {N D x y : Int} (hD : 0 < D) (h : makev N D = (x, y, 0)) : x * D = N * y ∧ 1 ≤ y ∧ y ≤ 1000000 ∧ ab x ≤ 1000000 ∧ rightv x y = true := by
  unfold makev at h
  rw [if_neg (by omega), ab_of_pos hD] at h
  split at h
  · simp at h
  · rename_i c
    have hgp := gd_pos (n := N) (d := D) (by omega)
    have hgN : ((gd N D).toNat : Int) = gd N D := by omega
    have d1 : gd N D ∣ ab N := by
      have := Nat.gcd_dvd_left (ab N).toNat (ab D).toNat
      have h2 := Int.natCast_dvd_natCast.2 this
      rwa [Int.toNat_of_nonneg (ab_nonneg' N)] at h2
    have d2 : gd N D ∣ D := by
      have := Nat.gcd_dvd_right (ab N).toNat (ab D).toNat
      have h2 := Int.natCast_dvd_natCast.2 this
      rw [ab_of_pos hD, Int.toNat_of_nonneg (by omega)] at h2
      rw [show gd N D = ((Nat.gcd (ab N).toNat D.toNat : Nat) : Int) by unfold gd; rw [ab_of_pos hD]]
      exact h2
    obtain ⟨a, ha⟩ := d1
    obtain ⟨b, hb⟩ := d2
    have e1 : ab N / gd N D = a := by rw [ha, Int.mul_ediv_cancel_left _ (by omega)]
    have e2 : D / gd N D = b := by
      conv => lhs; arg 1; rw [hb]
      rw [Int.mul_ediv_cancel_left _ (by omega)]
    rw [e1, e2] at h c
    simp only [Prod.mk.injEq, and_true] at h
    obtain ⟨hx, hy⟩ := h
    subst hy
    have ha0 : 0 ≤ a := by
      rw [← e1]
      exact Int.ediv_nonneg (ab_nonneg' N) (by omega)
    have hb0 : 0 < b := by
      rcases Int.lt_trichotomy b 0 with h | h | h
      · have := Int.mul_neg_of_pos_of_neg hgp h; omega
      · rw [h] at hb; omega
      · exact h
    have hdn : decide (D < 0) = false := decide_eq_false (by omega)
    rw [hdn] at hx
    have hxa : ab x = a ∧ x * (gd N D) = N := by
      unfold ab at ha ⊢
      by_cases n0 : N < 0
      · rw [if_pos n0] at ha
        simp only [decide_eq_true n0] at hx
        have hx1 : x = -a := by simpa using hx.symm
        subst hx1
        have hap : 0 < a := by
          rcases Int.lt_or_le 0 a with h | h
          · exact h
          · have : a = 0 := by omega
            rw [this] at ha; omega
        refine ⟨by rw [if_pos (by omega)]; omega, ?_⟩
        rw [Int.neg_mul, Int.mul_comm]
        omega
      · rw [if_neg n0] at ha
        simp only [decide_eq_false n0] at hx
        have hx1 : x = a := by simpa using hx.symm
        subst hx1
        exact ⟨if_neg (by omega), by rw [Int.mul_comm]; omega⟩
    refine ⟨?_, by omega, by omega, by omega, ?_⟩
    · conv => lhs; rw [hb]
      rw [← Int.mul_assoc, hxa.2]
    · have hr : 1 ≤ b ∧ b ≤ 1000000 ∧ -1000000 ≤ x ∧ x ≤ 1000000 := by
        have h1 := hxa.1
        unfold ab at h1
        split at h1 <;> omega
      rw [rightv_yes hr, hxa.1]
      have hc := Nat.coprime_div_gcd_div_gcd (m := (ab N).toNat) (n := (ab D).toNat) (Nat.gcd_pos_of_pos_right _ (by rw [ab_of_pos hD]; omega))
      have q1 : (ab N).toNat / Nat.gcd (ab N).toNat (ab D).toNat = a.toNat := by
        have : (((ab N).toNat / Nat.gcd (ab N).toNat (ab D).toNat : Nat) : Int) = a := by
          rw [Int.natCast_ediv, Int.toNat_of_nonneg (ab_nonneg' N)]
          exact e1
        omega
      have q2 : (ab D).toNat / Nat.gcd (ab N).toNat (ab D).toNat = b.toNat := by
        have : (((ab D).toNat / Nat.gcd (ab N).toNat (ab D).toNat : Nat) : Int) = b := by
          rw [Int.natCast_ediv, Int.toNat_of_nonneg (ab_nonneg' D), ab_of_pos hD]
          have : gd N D = ((Nat.gcd (ab N).toNat D.toNat : Nat) : Int) := by unfold gd; rw [ab_of_pos hD]
          rw [← this]
          exact e2
        omega
      rw [q1, q2] at hc
      rw [show Nat.gcd a.toNat b.toNat = 1 from hc]
      rfl
end Go.Proofs.Ytoppdlideonjjaa.M
end
section
/- Lists of products: what New, CheckAll, Get, Same and All come to. -/
namespace Go.Proofs.Ytoppdlideonjjaa.M
open Go.RowKit Go.Proofs.YtoppdlideonjjaaW.PrintWords Go.Proofs.YtoppdlideonjjaaW.PrintLast Dv
set_option linter.unusedVariables false
set_option linter.unusedSimpArgs false
abbrev rdP (l : List Pd) (i : Int) : Pd := rd_T24 l i
theorem rdP_at (l : List Pd) (i : Nat) (h : i < l.length) : rdP l (i : Int) = l[i] := by
  unfold rdP rd_T24
  simp [h]
theorem many_go (l : List Pd) (hl : l.length ≤ 210) (hg : ∀ p ∈ l, FineP p) : ∀ (m i : Nat) (n : Int), i + m = l.length → 0 ≤ n → n ≤ 300 → ∃ b, Ev (fun k => accountinglaw32_many.l0 k l n (i : Int)) b ∧ (b = false → ∀ p ∈ l.drop i, LightP p)
  | 0, i, n, h, h0, h1 => by
    refine ⟨false, Ev.succ ?_, fun _ u hu => ?_⟩
    · simp only [accountinglaw32_many.l0, if_neg (show ¬ (i : Int) < (l.length : Int) by omega)]
      exact Ev.const _
    · rw [List.drop_eq_nil_of_le (by omega)] at hu
      simp at hu
  | m + 1, i, n, h, h0, h1 => by
    have hi : i < l.length := by omega
    have fi := hg _ (List.getElem_mem hi)
    rw [List.drop_eq_getElem_cons hi]
    obtain ⟨b, hb, hb2⟩ := large_ev l[i] fi.s0 fi.s1
    have hfl := fi.len
    have hw : wrap64 (n + (l[i].f4.length : Int)) = n + (l[i].f4.length : Int) := w64 (by omega) (by omega)
    cases b with
    | true =>
      refine ⟨true, Ev.succ ?_, fun e => by cases e⟩
      simp only [accountinglaw32_many.l0, if_pos (show (i : Int) < (l.length : Int) by omega), if_pos (show 0 ≤ (i : Int) by omega), show rd_T24 l (i : Int) = l[i] from rdP_at l i hi]
      refine Ev.bind hb ?_
      simp only [if_true]
      exact Ev.const _
    | false =>
      by_cases c : n + (l[i].f4.length : Int) > 300
      · refine ⟨true, Ev.succ ?_, fun e => by cases e⟩
        simp only [accountinglaw32_many.l0, if_pos (show (i : Int) < (l.length : Int) by omega), if_pos (show 0 ≤ (i : Int) by omega), show rd_T24 l (i : Int) = l[i] from rdP_at l i hi]
        refine Ev.bind hb ?_
        simp only [Bool.false_eq_true, if_false, hw, if_pos c]
        exact Ev.const _
      · obtain ⟨b, h3, h4⟩ := many_go l hl hg m (i + 1) (n + (l[i].f4.length : Int)) (by omega) (by omega) (by omega)
        refine ⟨b, Ev.succ ?_, fun e u hu => ?_⟩
        · simp only [accountinglaw32_many.l0, if_pos (show (i : Int) < (l.length : Int) by omega), if_pos (show 0 ≤ (i : Int) by omega), show rd_T24 l (i : Int) = l[i] from rdP_at l i hi]
          refine Ev.bind hb ?_
          simp only [Bool.false_eq_true, if_false, hw, if_neg c, w64 (show -9223372036854775808 ≤ (i : Int) + 1 by omega) (by omega)]
          exact h3
        · rcases List.mem_cons.1 hu with rfl | hu
          · exact hb2 rfl
          · exact h4 e u hu
theorem many_ev (l : List Pd) (hg : ∀ p ∈ l, FineP p) : ∃ b, Ev (fun k => accountinglaw32_many.f k l) b ∧ (b = false → l.length ≤ 210 ∧ ∀ p ∈ l, LightP p) := by
  by_cases c : (l.length : Int) > 210
  · refine ⟨true, ?_, fun e => by cases e⟩
    unfold accountinglaw32_many.f
    simp only [if_pos c]
    exact Ev.const _
  · obtain ⟨b, h1, h2⟩ := many_go l (by omega) hg l.length 0 0 (by omega) (by omega) (by omega)
    refine ⟨b, ?_, fun e => ⟨by omega, fun p hp => h2 e p (by simpa using hp)⟩⟩
    unfold accountinglaw32_many.f
    simp only [if_neg c]
    exact h1
/-! ### New and CheckAll -/
def newv : List Pd → Int → List Pd → Option (Int × Int)
  | [], j, seen => none
  | p :: r, j, seen => if chkv p = 0 then (if seen.any (fun q => decide (q.f0 = p.f0)) = true then some (j, 8) else newv r (j + 1) (seen ++ [p])) else some (j, chkv p)
theorem newL_ev : ∀ (l : List Pd) (j : Int) (seen : List Pd), (∀ p ∈ l, FineP p) → Ev (fun k => newL k l j seen) (newv l j seen)
  | [], j, seen, h => Ev.const _
  | p :: r, j, seen, h => by
    have fp := h p List.mem_cons_self
    simp only [newL, newv]
    refine Ev.bind (items_Check.eq p fp.len fp.gs) ?_
    by_cases c : chkv p = 0
    · simp only [if_pos c]
      by_cases d : seen.any (fun q => decide (q.f0 = p.f0)) = true
      · simp only [if_pos d]; exact Ev.const _
      · simp only [if_neg d]
        exact newL_ev r (j + 1) (seen ++ [p]) (fun q hq => h q (List.mem_cons_of_mem _ hq))
    · simp only [if_neg c]; exact Ev.const _
theorem newv_ne : ∀ (l : List Pd) (j : Int) (seen : List Pd) (r : Int × Int), newv l j seen = some r → r.2 ≠ 0
  | [], j, seen, r, h => by cases h
  | p :: t, j, seen, r, h => by
    unfold newv at h
    by_cases c : chkv p = 0
    · rw [if_pos c] at h
      by_cases d : seen.any (fun q => decide (q.f0 = p.f0)) = true
      · rw [if_pos d] at h
        obtain rfl := Option.some.inj h
        show (8 : Int) ≠ 0
        decide
      · rw [if_neg d] at h
        exact newv_ne t _ _ r h
    · rw [if_neg c] at h
      obtain rfl := Option.some.inj h
      exact c
theorem newv_nodup : ∀ (l : List Pd) (j : Int) (seen : List Pd), newv l j seen = none → (seen.map (·.f0)).Nodup → ((seen ++ l).map (·.f0)).Nodup
  | [], j, seen, h, hn => by simpa using hn
  | p :: t, j, seen, h, hn => by
    unfold newv at h
    by_cases c : chkv p = 0
    · rw [if_pos c] at h
      by_cases d : seen.any (fun q => decide (q.f0 = p.f0)) = true
      · rw [if_pos d] at h; cases h
      · rw [if_neg d] at h
        have := newv_nodup t _ _ h (by
          rw [List.map_append, List.map_singleton, List.nodup_append]
          refine ⟨hn, by simp, fun a ha b hb e => ?_⟩
          obtain rfl : b = p.f0 := by simpa using hb
          obtain ⟨q, hq, hqa⟩ := List.mem_map.1 ha
          exact d (List.any_eq_true.2 ⟨q, hq, decide_eq_true (hqa.trans e)⟩))
        rwa [List.append_assoc, List.singleton_append] at this
    · rw [if_neg c] at h; cases h
def resv (r : Option (Int × Int)) : Int × Int := r.getD (0, 0)
theorem ckall_l1 (l : List Pd) (hl : l.length ≤ 1000000) (i : Nat) (hi : i < l.length) (R : Int × Int) (hR : Ev (fun k => accountingref32_CheckAll.l0 k l (wrap64 ((i : Int) + 1))) R) : ∀ (m j : Nat), j + m = i → Ev (fun k => accountingref32_CheckAll.l1 k l (i : Int) (j : Int)) (if ((l.take i).drop j).any (fun q => decide (q.f0 = l[i].f0)) = true then ((i : Int), 8) else R)
  | 0, j, h => by
    refine Ev.succ ?_
    rw [List.drop_eq_nil_of_le (by rw [List.length_take]; omega)]
    simp only [accountingref32_CheckAll.l1, if_neg (show ¬ (j : Int) < (i : Int) by omega), List.any_nil, Bool.false_eq_true, if_false]
    exact hR
  | m + 1, j, h => by
    have hj : j < l.length := by omega
    have hj2 : j < (l.take i).length := by rw [List.length_take]; omega
    refine Ev.succ ?_
    rw [List.drop_eq_getElem_cons hj2, List.getElem_take, List.any_cons]
    simp only [accountingref32_CheckAll.l1, if_pos (show (j : Int) < (i : Int) by omega), if_pos (show 0 ≤ (j : Int) by omega), if_pos (show (j : Int) < (l.length : Int) by omega), if_pos (show 0 ≤ (i : Int) by omega), if_pos (show (i : Int) < (l.length : Int) by omega), show rd_T24 l (j : Int) = l[j] from rdP_at l j hj, show rd_T24 l (i : Int) = l[i] from rdP_at l i hi]
    by_cases c : l[j].f0 = l[i].f0
    · simp only [if_pos (toList_inj.2 c), decide_eq_true c, Bool.true_or, if_true]
      exact Ev.const _
    · simp only [if_neg (fun e => c (toList_inj.1 e)), decide_eq_false c, Bool.false_or, w64 (show -9223372036854775808 ≤ (j : Int) + 1 by omega) (by omega)]
      exact ckall_l1 l hl i hi R hR m (j + 1) (by omega)
theorem ckall_go (l : List Pd) (hl : l.length ≤ 1000000) (hg : ∀ p ∈ l, FineP p) : ∀ (m i : Nat), i + m = l.length → Ev (fun k => accountingref32_CheckAll.l0 k l (i : Int)) (resv (newv (l.drop i) (i : Int) (l.take i)))
  | 0, i, h => by
    refine Ev.succ ?_
    rw [List.drop_eq_nil_of_le (by omega)]
    simp only [accountingref32_CheckAll.l0, if_neg (show ¬ (i : Int) < (l.length : Int) by omega)]
    exact Ev.const _
  | m + 1, i, h => by
    have hi : i < l.length := by omega
    have fi := hg _ (List.getElem_mem hi)
    rw [List.drop_eq_getElem_cons hi]
    refine Ev.succ ?_
    simp only [accountingref32_CheckAll.l0, if_pos (show (i : Int) < (l.length : Int) by omega), if_pos (show 0 ≤ (i : Int) by omega), show rd_T24 l (i : Int) = l[i] from rdP_at l i hi]
    refine Ev.bind (accountingref32_Check.eq l[i] fi.len fi.gs fi.us fi.s0 fi.s1) ?_
    unfold newv
    by_cases c : chkv l[i] = 0
    · simp only [if_pos c]
      have ih := ckall_go l hl hg m (i + 1) (by omega)
      rw [show ((i + 1 : Nat) : Int) = wrap64 ((i : Int) + 1) from (w64 (show -9223372036854775808 ≤ (i : Int) + 1 by omega) (by omega)).symm] at ih
      have h1 := ckall_l1 l hl i hi _ ih i 0 (by omega)
      rw [List.drop_zero] at h1
      have e : resv (if (l.take i).any (fun q => decide (q.f0 = l[i].f0)) = true then some ((i : Int), 8) else newv (l.drop (i + 1)) ((i : Int) + 1) (l.take i ++ [l[i]])) = (if (l.take i).any (fun q => decide (q.f0 = l[i].f0)) = true then ((i : Int), 8) else resv (newv (l.drop (i + 1)) (wrap64 ((i : Int) + 1)) (l.take (i + 1)))) := by
        rw [show l.take i ++ [l[i]] = l.take (i + 1) by simp, w64 (show -9223372036854775808 ≤ (i : Int) + 1 by omega) (by omega)]
        split <;> rfl
      rw [e]
      exact h1
    · simp only [if_neg c]
      exact Ev.const _
/-! ### Get and Same -/
theorem get_go (l : List Pd) (hl : l.length ≤ 1000000) (s : ByteArray) : ∀ (m i : Nat), i + m = l.length → Ev (fun k => accountingref32_Get.l0 k l s (i : Int)) ((getP (l.drop i) s).1.f0, (getP (l.drop i) s).1.f1, (getP (l.drop i) s).1.f2, (getP (l.drop i) s).1.f3, (getP (l.drop i) s).1.f4, (getP (l.drop i) s).2)
  | 0, i, h => by
    refine Ev.succ ?_
    rw [List.drop_eq_nil_of_le (by omega)]
    simp only [accountingref32_Get.l0, if_neg (show ¬ (i : Int) < (l.length : Int) by omega)]
    exact Ev.const _
  | m + 1, i, h => by
    have hi : i < l.length := by omega
    rw [List.drop_eq_getElem_cons hi]
    refine Ev.succ ?_
    simp only [accountingref32_Get.l0, if_pos (show (i : Int) < (l.length : Int) by omega), if_pos (show 0 ≤ (i : Int) by omega), show rd_T24 l (i : Int) = l[i] from rdP_at l i hi, w64 (show -9223372036854775808 ≤ (i : Int) + 1 by omega) (by omega)]
    by_cases c : l[i].f0 = s
    · have e : getP (l[i] :: l.drop (i + 1)) s = (l[i], true) := by unfold getP; rw [List.find?_cons, decide_eq_true c]
      simp only [if_pos (toList_inj.2 c), e]
      exact Ev.const _
    · have e : getP (l[i] :: l.drop (i + 1)) s = getP (l.drop (i + 1)) s := by unfold getP; rw [List.find?_cons, decide_eq_false c]
      simp only [if_neg (fun e => c (toList_inj.1 e)), e]
      exact get_go l hl s m (i + 1) (by omega)
theorem same_go (p : Pd) (hl : p.f4.length ≤ 1000000) : ∀ (m i : Nat), i + m = p.f4.length → Ev (fun k => accountingref32_Same.l0 k (i : Int) p.f0 p.f1 p.f2 p.f3 p.f4 p.f0 p.f1 p.f2 p.f3 p.f4) true
  | 0, i, h => by
    refine Ev.succ ?_
    simp only [accountingref32_Same.l0, if_neg (show ¬ (i : Int) < (p.f4.length : Int) by omega)]
    exact Ev.const _
  | m + 1, i, h => by
    refine Ev.succ ?_
    simp only [accountingref32_Same.l0, if_pos (show (i : Int) < (p.f4.length : Int) by omega), if_pos (show 0 ≤ (i : Int) by omega), beq_self_eq_true, Bool.not_true, Bool.or_self, Bool.false_eq_true, if_false, w64 (show -9223372036854775808 ≤ (i : Int) + 1 by omega) (by omega)]
    exact same_go p hl m (i + 1) (by omega)
theorem same_self (p : Pd) (hl : p.f4.length ≤ 1000000) : Ev (fun k => accountingref32_Same.f k p.f0 p.f1 p.f2 p.f3 p.f4 p.f0 p.f1 p.f2 p.f3 p.f4) true := by
  unfold accountingref32_Same.f
  simp only [if_true, bne_self_eq_false]
  refine Ev.succ ?_
  simp only [accountingref32_Same.j0, Bool.false_eq_true, if_false]
  exact same_go p hl p.f4.length 0 (by omega)
theorem sameall_go (l : List Pd) (hl : l.length ≤ 1000000) (hu : ∀ p ∈ l, p.f4.length ≤ 1000000) : ∀ (m i : Nat), i + m = l.length → Ev (fun k => accountingref32_SameAll.l0 k l l (i : Int)) true
  | 0, i, h => by
    refine Ev.succ ?_
    simp only [accountingref32_SameAll.l0, if_neg (show ¬ (i : Int) < (l.length : Int) by omega)]
    exact Ev.const _
  | m + 1, i, h => by
    have hi : i < l.length := by omega
    refine Ev.succ ?_
    simp only [accountingref32_SameAll.l0, if_pos (show (i : Int) < (l.length : Int) by omega), if_pos (show 0 ≤ (i : Int) by omega), show rd_T24 l (i : Int) = l[i] from rdP_at l i hi, w64 (show -9223372036854775808 ≤ (i : Int) + 1 by omega) (by omega)]
    refine Ev.bind (same_self l[i] (hu _ (List.getElem_mem hi))) ?_
    simp only [if_true]
    exact sameall_go l hl hu m (i + 1) (by omega)
theorem sameall_self (l : List Pd) (hl : l.length ≤ 1000000) (hu : ∀ p ∈ l, p.f4.length ≤ 1000000) : Ev (fun k => accountingref32_SameAll.f k l l) true := by
  unfold accountingref32_SameAll.f
  simp only [if_true]
  exact sameall_go l hl hu l.length 0 (by omega)
/-! ### the order -/
theorem bl_lt : ∀ x y : List UInt8, Op.bytesLess x y = decide (x < y)
  | _, [] => by simp [Op.bytesLess]
  | [], _ :: _ => by simp [Op.bytesLess]
  | a :: x, b :: y => by
    rw [Op.bytesLess, bl_lt x y]
    rw [Bool.eq_iff_iff]
    simp only [Bool.or_eq_true, Bool.and_eq_true, decide_eq_true_eq, beq_iff_eq, List.cons_lt_cons_iff]
abbrev ltP (a b : Pd) : Prop := a.f0.toList < b.f0.toList
theorem gtc_iff (m y : Pd) : gtc m y = true ↔ ltP m y := by
  unfold gtc ltP
  rw [bl_lt]
  simp only [Bool.and_eq_true, Bool.not_eq_true', decide_eq_false_iff_not, beq_eq_false_iff_ne]
  constructor
  · rintro ⟨h1, h2⟩
    by_cases h : m.f0.toList < y.f0.toList
    · exact h
    · exact absurd (List.le_antisymm (List.not_lt.1 h) (List.not_lt.1 h1)) h2
  · intro h
    exact ⟨List.lt_asymm h, fun e => List.lt_irrefl _ (e ▸ h)⟩
theorem refpos_spec (p : Nat → Bool) : ∀ n, (∀ i, refpos p n ≤ i → i < n → p i = true) ∧ (0 < refpos p n → p (refpos p n - 1) = false)
  | 0 => ⟨fun i h0 h1 => by omega, fun h => by simp [refpos] at h⟩
  | n + 1 => by
    obtain ⟨h1, h2⟩ := refpos_spec p n
    unfold refpos
    cases c : p n with
    | true =>
      simp only [if_true]
      refine ⟨fun i h3 h4 => ?_, h2⟩
      by_cases e : i = n
      · rw [e]; exact c
      · exact h1 i h3 (by omega)
    | false =>
      simp only [Bool.false_eq_true, if_false]
      exact ⟨fun i h3 h4 => by omega, fun _ => c⟩
theorem insp_sorted {o : List Pd} {m : Pd} (h : o.Pairwise ltP) (hm : ∀ y ∈ o, y.f0 ≠ m.f0) : (insp o m).Pairwise ltP := by
  obtain ⟨pos, hpos⟩ : ∃ q, refpos (fun i => gtc m (prAt o i)) o.length = q := ⟨_, rfl⟩
  have hle := refpos_le (fun i => gtc m (prAt o i)) o.length
  obtain ⟨s1, s2⟩ := refpos_spec (fun i => gtc m (prAt o i)) o.length
  rw [insp_pos hpos]
  rw [hpos] at hle s1 s2
  have hat : ∀ i (hi : i < o.length), prAt o i = o[i] := fun i hi => rdP_at o i hi
  have hB : ∀ b ∈ o.drop pos, ltP m b := by
    intro b hb
    obtain ⟨i, hi, rfl⟩ := List.mem_iff_getElem.1 hb
    rw [List.getElem_drop]
    rw [List.length_drop] at hi
    have := s1 (pos + i) (by omega) (by omega)
    rw [← hat (pos + i) (by omega)]
    exact (gtc_iff _ _).1 this
  have hA : ∀ a ∈ o.take pos, ltP a m := by
    intro a ha
    obtain ⟨i, hi, rfl⟩ := List.mem_iff_getElem.1 ha
    rw [List.getElem_take]
    rw [List.length_take] at hi
    have hp0 : 0 < pos := by omega
    have h1 := s2 hp0
    have hlast : pos - 1 < o.length := by omega
    rw [hat (pos - 1) hlast] at h1
    have h2 : ¬ ltP m o[pos - 1] := fun e => by rw [(gtc_iff _ _).2 e] at h1; cases h1
    have h3 : o[pos - 1].f0.toList ≤ m.f0.toList := List.not_lt.1 h2
    have h4 : o[pos - 1].f0.toList ≠ m.f0.toList := fun e => hm _ (List.getElem_mem hlast) (toList_inj.1 e)
    have h5 : ltP o[pos - 1] m := by
      by_cases h : o[pos - 1].f0.toList < m.f0.toList
      · exact h
      · exact absurd (List.le_antisymm h3 (List.not_lt.1 h)) h4
    by_cases e : i = pos - 1
    · subst e; exact h5
    · exact List.lt_trans ((List.pairwise_iff_getElem.1 h) i (pos - 1) (by omega) hlast (by omega)) h5
  have hs := h
  rw [← List.take_append_drop pos o, List.pairwise_append] at hs
  rw [List.pairwise_append]
  refine ⟨hs.1, List.pairwise_cons.2 ⟨hB, hs.2.1⟩, fun a ha b hb => ?_⟩
  rcases List.mem_cons.1 hb with rfl | hb
  · exact hA a ha
  · exact hs.2.2 a ha b hb
theorem insp_perm (o : List Pd) (m : Pd) : (insp o m).Perm (m :: o) := by
  unfold insp
  have h := List.take_append_drop (refpos (fun i => gtc m (prAt o i)) o.length) o
  refine List.Perm.trans List.perm_middle ?_
  rw [h]
theorem refAll_go : ∀ (l o : List Pd), o.Pairwise ltP → ((o ++ l).map (·.f0)).Nodup → (l.foldl insp o).Pairwise ltP ∧ (l.foldl insp o).Perm (o ++ l)
  | [], o, h, hn => ⟨h, by simp⟩
  | m :: l, o, h, hn => by
    have hm : ∀ y ∈ o, y.f0 ≠ m.f0 := by
      intro y hy e
      rw [List.map_append, List.nodup_append] at hn
      exact hn.2.2 y.f0 (List.mem_map_of_mem hy) m.f0 (List.mem_map_of_mem List.mem_cons_self) e
    have hp : (insp o m ++ l).Perm (o ++ m :: l) := ((insp_perm o m).append_right l).trans (by rw [List.cons_append]; exact List.perm_middle.symm)
    obtain ⟨h1, h2⟩ := refAll_go l (insp o m) (insp_sorted h hm) ((hp.map (·.f0)).nodup_iff.2 hn)
    exact ⟨h1, h2.trans hp⟩
theorem srt_of {xs ys : List ByteArray} (h : ys.Pairwise (fun a b => a.toList < b.toList)) (hp : xs.Perm ys) : srt xs = ys := by
  unfold srt
  rw [mergeSort_perm_eq (hp.map (fun b : ByteArray => b.data.toList)), List.mergeSort_of_pairwise, List.map_map]
  · exact (List.map_congr_left (fun a _ => rfl)).trans (List.map_id _)
  · refine List.pairwise_map.2 (h.imp (fun {a b} hab => ?_))
    rw [ByteArray.toList_eq, ByteArray.toList_eq] at hab
    exact decide_eq_true (List.le_of_lt hab)
theorem nodup_inj : ∀ (l : List Pd), (l.map (·.f0)).Nodup → ∀ p ∈ l, ∀ q ∈ l, p.f0 = q.f0 → p = q
  | [], h, p, hp, q, hq, e => by simp at hp
  | a :: l, h, p, hp, q, hq, e => by
    rw [List.map_cons, List.nodup_cons] at h
    rcases List.mem_cons.1 hp with hp' | hp' <;> rcases List.mem_cons.1 hq with hq' | hq'
    · rw [hp', hq']
    · exact absurd (by rw [← hp', e]; exact List.mem_map_of_mem hq') h.1
    · exact absurd (by rw [← hq', ← e]; exact List.mem_map_of_mem hp') h.1
    · exact nodup_inj l h.2 p hp' q hq' e
theorem allP_refAll {l : List Pd} (hn : (l.map (·.f0)).Nodup) : allP l = refAll l := by
  obtain ⟨h1, h2⟩ := refAll_go l [] List.Pairwise.nil hn
  rw [List.nil_append] at h2
  have hs : srt (l.map (·.f0)) = (refAll l).map (·.f0) := srt_of (List.pairwise_map.2 h1) ((h2.map (·.f0)).symm)
  unfold allP
  rw [hs, List.map_map]
  have hg : ∀ p ∈ refAll l, (getP l p.f0).1 = p := by
    intro p hp
    have hpl : p ∈ l := h2.mem_iff.1 hp
    unfold getP
    cases hf : l.find? (fun q => decide (q.f0 = p.f0)) with
    | none =>
      have := List.find?_eq_none.1 hf p hpl
      simp at this
    | some q =>
      have hq := List.mem_of_find?_eq_some hf
      have he := List.find?_some hf
      have he2 : q.f0 = p.f0 := by simpa using he
      show q = p
      exact nodup_inj l hn q hq p hpl he2
  exact (List.map_congr_left (fun p hp => hg p hp)).trans (List.map_id _)
end Go.Proofs.Ytoppdlideonjjaa.M
end
section
-- Written by mprint.py (a program of this session) over the kit's print.
namespace Go.Proofs.Ytoppdlideonjjaa.M
open Go.RowKit Go.Proofs.YtoppdlideonjjaaW.PrintWords Go.Proofs.YtoppdlideonjjaaW.PrintLast Go.Proofs.YtoppdlideonjjaaW.PrintMore
attribute [local go_sem] max2_int min2_int max_two min_two max_three min_three max_four min_four   -- for this text's walks alone
set_option linter.unusedVariables false
set_option linter.unusedSimpArgs false

/-- THE ONE PURE STATEMENT of accountinglaw32_ItemsLists. -/
def accountinglaw32_ItemsLists.Pure : Prop := ∀ (x0 : List (S24)) (x1 : ByteArray), (x0.length * 72 ≤ 140737488351232 ∧ ∀ y0_ ∈ x0, G24 y0_) → (x1.size ≤ 140737488351232) → ∃ k, accountinglaw32_ItemsLists.f k x0 x1 = some true
end Go.Proofs.Ytoppdlideonjjaa.M
end
section
/- New, Len, Get and All are the specification's. -/
namespace Go.Proofs.Ytoppdlideonjjaa.M
open Go.RowKit Go.Proofs.YtoppdlideonjjaaW.PrintWords Go.Proofs.YtoppdlideonjjaaW.PrintLast Dv
set_option linter.unusedVariables false
set_option linter.unusedSimpArgs false
theorem allP_mem {l : List Pd} (P : Pd → Prop) (h : ∀ p ∈ l, P p) (h0 : P z24) : ∀ p ∈ allP l, P p := by
  intro p hp
  unfold allP at hp
  obtain ⟨c, _, rfl⟩ := List.mem_map.1 hp
  exact getP_mem l c P h h0
theorem allP_length (l : List Pd) : (allP l).length = l.length := by
  unfold allP
  rw [List.length_map, srt_length, List.length_map]
theorem pure_ItemsLists : accountinglaw32_ItemsLists.Pure := by
  intro l s hl hs
  have hg : ∀ p ∈ l, FineP p := fun p hp => fine_of (hl.2 p hp)
  refine Ev.out (g := fun k => accountinglaw32_ItemsLists.f k l s) ?_
  unfold accountinglaw32_ItemsLists.f
  obtain ⟨b, hb, hb2⟩ := many_ev l hg
  refine Ev.bind hb ?_
  cases b with
  | true => simp only [if_true]; exact Ev.const _
  | false =>
    simp only [Bool.false_eq_true, if_false]
    by_cases c : (s.size : Int) > 100
    · simp only [if_pos c]; exact Ev.const _
    simp only [if_neg c]
    obtain ⟨h210, hlt⟩ := hb2 rfl
    have hc : l.length ≤ 1000000 ∧ (∀ p ∈ l, p.f4.length ≤ 1000000) ∧ (∀ p ∈ l, p.f0.size ≤ 140737488351232) := ⟨by omega, fun p hp => by have := (hlt p hp).len; omega, fun p hp => by have := (hlt p hp).cs; omega⟩
    simp only [if_pos hc]
    by_cases c2 : l.length > 200
    · refine Ev.bind (a := some (0, 9)) (by unfold newf; simp only [if_pos c2]; exact Ev.const _) ?_
      refine Ev.bind (a := (0, 9)) (by unfold accountingref32_CheckAll.f; simp only [if_pos (show (l.length : Int) > 200 by omega)]; exact Ev.const _) ?_
      simp only [if_true, if_neg (show ¬ (9 : Int) = 0 by decide)]
      exact Ev.const _
    refine Ev.bind (a := newv l 0 []) (by unfold newf; simp only [if_neg c2]; exact newL_ev l 0 [] hg) ?_
    refine Ev.bind (a := resv (newv l 0 [])) (by
      unfold accountingref32_CheckAll.f
      simp only [if_neg (show ¬ (l.length : Int) > 200 by omega)]
      have := ckall_go l hc.1 hg l.length 0 (by omega)
      rw [List.drop_zero, List.take_zero] at this
      exact this) ?_
    cases hn : newv l 0 [] with
    | some r =>
      have hr := newv_ne l 0 [] r hn
      simp only [resv, Option.getD_some, if_true]
      exact Ev.of (fun k => if_neg hr)
    | none =>
      have hnd := newv_nodup l 0 [] hn (by simp)
      rw [List.nil_append] at hnd
      simp only [resv, Option.getD_none, if_true]
      have hget := get_go l hc.1 s l.length 0 (by omega)
      rw [List.drop_zero] at hget
      refine Ev.bind (by unfold accountingref32_Get.f; exact hget) ?_
      simp only [listsF, if_true]
      refine Ev.bind (same_self _ (getP_mem l s (fun p => p.f4.length ≤ 1000000) hc.2.1 (Nat.zero_le _))) ?_
      simp only [if_true]
      rw [← allP_refAll hnd]
      refine Ev.bind (sameall_self _ (by rw [allP_length]; exact hc.1) (allP_mem (fun p => p.f4.length ≤ 1000000) hc.2.1 (Nat.zero_le _))) ?_
      simp only [if_true]
      exact Ev.const _
end Go.Proofs.Ytoppdlideonjjaa.M
namespace Go.Proofs.Ytoppdlideonjjaa.Pure
theorem ItemsLists : M.accountinglaw32_ItemsLists.Pure := M.pure_ItemsLists
end Go.Proofs.Ytoppdlideonjjaa.Pure
end
section
/- Later changes do not change a list: the walk leaves All beside the specification's. -/
namespace Go.Proofs.Ytoppdlideonjjaa.M
open Go.RowKit Go.Proofs.YtoppdlideonjjaaW.PrintWords Go.Proofs.YtoppdlideonjjaaW.PrintLast Dv
set_option linter.unusedVariables false
set_option linter.unusedSimpArgs false
theorem pure_ItemsOwn : accountinglaw32_ItemsOwn.Pure := by
  intro l hl
  have hg : ∀ p ∈ l, FineP p := fun p hp => fine_of (hl.2 p hp)
  refine Ev.out (g := fun k => accountinglaw32_ItemsOwn.f k l) ?_
  unfold accountinglaw32_ItemsOwn.f
  obtain ⟨b, hb, hb2⟩ := many_ev l hg
  refine Ev.bind hb ?_
  cases b with
  | true => simp only [if_true]; exact Ev.const _
  | false =>
    simp only [Bool.false_eq_true, if_false]
    obtain ⟨h210, hlt⟩ := hb2 rfl
    have hc : l.length ≤ 1000000 ∧ (∀ p ∈ l, p.f4.length ≤ 1000000) ∧ (∀ p ∈ l, p.f0.size ≤ 140737488351232) := ⟨by omega, fun p hp => by have := (hlt p hp).len; omega, fun p hp => by have := (hlt p hp).cs; omega⟩
    simp only [if_pos hc]
    by_cases c2 : l.length > 200
    · refine Ev.bind (a := some (0, 9)) (by unfold newf; simp only [if_pos c2]; exact Ev.const _) ?_
      exact Ev.of (fun k => if_neg (by decide))
    refine Ev.bind (a := newv l 0 []) (by unfold newf; simp only [if_neg c2]; exact newL_ev l 0 [] hg) ?_
    cases hn : newv l 0 [] with
    | some r => exact Ev.of (fun k => if_neg (newv_ne l 0 [] r hn))
    | none =>
      have hnd := newv_nodup l 0 [] hn (by simp)
      rw [List.nil_append] at hnd
      dsimp only
      rw [← allP_refAll hnd]
      refine Ev.bind (sameall_self _ (by rw [allP_length]; exact hc.1) (allP_mem (fun p => p.f4.length ≤ 1000000) hc.2.1 (Nat.zero_le _))) ?_
      simp only [if_true]
      exact Ev.const _
end Go.Proofs.Ytoppdlideonjjaa.M
namespace Go.Proofs.Ytoppdlideonjjaa.Pure
theorem ItemsOwn : M.accountinglaw32_ItemsOwn.Pure := M.pure_ItemsOwn
end Go.Proofs.Ytoppdlideonjjaa.Pure
end
section
-- Written by mprint.py (a program of this session) over the kit's print.
namespace Go.Proofs.Ytoppdlideonjjaa.itemsOwn
open Go.ChangeShapes Go.WideShapes Go.ChangeAt Go.RowKit Go.Proofs.Ytoppdlideonjjaa.M Go.Proofs.YtoppdlideonjjaaW.PrintWords Go.Proofs.YtoppdlideonjjaaW.PrintLast
open Go.ChangeMaps (open_string shut_string)
set_option linter.unusedVariables false
theorem own : ownKnob Try.prog.godebug = none := by kernel_rfl
theorem laidOut : laidOutB Try.prog = true := by kernel_rfl
set_option maxRecDepth 100000 in
set_option maxHeartbeats 4000000 in
theorem lifted (os : Os) (started : os.Started) (H : Type) (enc : TypeId × Value → H) :
    ReturnsInHanded {} Try.checked os 9 .any (Rows.itemsOwnSpec.pre6 enc Try.prog Try.f9 Rows.itemsOwnRow.domain false) (Rows.itemsOwnSpec.post enc Try.prog Try.f9 false true false false) := by
  refine returnsInHanded_of_change_sized (C := Try.checked) own started (by kernel_rfl) Try.func9
    (ChangeSpec.witness6 (enc := enc) (C := Try.checked) false ⟨#[], #[.slice none 0 0], []⟩ 8 (by kernel_rfl) (by kernel_rfl) (by kernel_rfl) (by kernel_rfl)) ?_
  intro W base args ds gs before hval0 hW hcnd hsz0 _
  have hsz : (DataW.weightsEach Try.prog (Try.f9.params.toList ++ Rows.itemsOwnSpec.plain.varTypes Try.prog) (ds ++ gs)).all (· ≤ reachBytes) = true := hsz0
  have hval : ∀ (j : Nat) t v, Try.f9.params[j]? = some t → args[j]? = some v → Value.okWide Try.prog W .any base t v := hval0
  have hW' := hW
  obtain ⟨p, q, hA0, hV, rfl, hfz, hnd⟩ := hW
  have hA : DataW.TrodAll enc Try.prog W 0 (fun _ => true) true Try.f9.params.toList args.toList ds p := hA0
  rw [Try.params9] at hA hval hsz
  obtain ⟨v0, vs0, d0, ds0, p0, q0, hargs, rfl, rfl, h0, r0⟩ := trodAll_cons hA
  obtain ⟨rfl, rfl, rfl⟩ := trodAll_nil r0
  obtain rfl : args = #[v0] := by cases args; simp_all
  obtain ⟨rfl, rfl⟩ := trodVars_none hV
  obtain ⟨a0, len0, cap0, rfl⟩ := okWide_slice Try.underlying45 (hval 0 45 v0 rfl rfl)
  have k0 := h0
  have lt0 : ∀ x ∈ p0, x.block < W.heap.size := by obtain ⟨m, hm⟩ := k0; exact DataW.trod_lt m _ _ _ hm
  obtain ⟨x0, K0, g0⟩ : ∃ x_ : List (S24), (Kd.slice 24 k24).K W x_ [.slice a0 len0 cap0] ∧ (x_.length * 72 ≤ 140737488351232 ∧ ∀ y0_ ∈ x_, G24 y0_) := by obtain ⟨f, hf⟩ := h0; exact ((Opens.slice Try.underlying45 opens24 (by kernel_rfl) (b := 72) (by kernel_rfl))).get enc W 0 _ _ f _ _ hf (weights_at hsz (j := 0) (t := 45) rfl rfl)
  obtain ⟨A0, c0, e0, L0, C0⟩ := K0
  injection e0 with e0 _
  injection e0 with e0a e0b e0c
  subst e0a e0b e0c
  clear hA0 hval0 hsz0 hsz
  obtain ⟨k, h⟩ := Pure.ItemsOwn x0 g0
  refine (M.accountinglaw32_ItemsOwn.calls (k := k) (r := true) (w := W) (hr0 := C0) (hc0 := L0) (h := h)).mono fun e W' ⟨he, bel0⟩ => ?_
  have bel : Below W.heap.size W W' := by first | exact bel0 | exact bel0.below | (obtain ⟨nd, rfl⟩ := bel0; exact pw_below_drewN (Below.refl _ _) nd)
  subst he
  exact ⟨_, rfl, _, _, _, [], _, [], hW', trodAll_mk1 (shut_bool Try.underlying4 _), (trodAll_cons_mk (Below.trod laidOut (by kernel_rfl) (of_decide_eq_true (by kernel_rfl)) k0 bel lt0) trodAll_mk0), rfl, bel.frame _, fun h => by cases h⟩
theorem over : Rows.itemsOwnRow.holds Try.pinned (OpenSpec.ofChange Rows.itemsOwnSpec) :=
  OpenClaim.holds_of_wide 9 Try.f9 rfl rfl rfl rfl rfl rfl rfl ⟨rfl, rfl, rfl, rfl, rfl⟩ rfl rfl rfl rfl rfl (by kernel_rfl) Try.func9 (by kernel_rfl)
    (of_decide_eq_true (by kernel_rfl)) (by unfold Func.isWrapper; first | (rw [if_pos (by decide +kernel)]; kernel_rfl) | (rw [if_neg (by decide +kernel)]; exact ⟨rfl, rfl⟩))
    (fun os started H enc _ => lifted os started H enc)
theorem proved : Rows.ItemsOwnSaid := over
#print axioms proved
end Go.Proofs.Ytoppdlideonjjaa.itemsOwn
namespace Go.Proofs.Ytoppdlideonjjaa
/-- The row, under a short name, for the claim. -/
theorem itemsOwn_holds : Rows.ItemsOwnSaid := itemsOwn.proved
end Go.Proofs.Ytoppdlideonjjaa
end
