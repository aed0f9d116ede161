/- Even returns what the chapter defines, for any amount and number of parts: under no condition. This is part 8 of 8 of the proof. -/
import Derived.Test.YtikglhfeookhaaaQEv7
import Derived.Test.YtikglhfeookhaaaQEv5
import Derived.Test.YtikglhfeookhaaaQEv2
import Derived.Test.YtikglhfeookhaaaQEv3
import Derived.Test.YtikglhfeookhaaaQEv6
import Derived.Test.YtikglhfeookhaaaQEv1
import Derived.Test.YtikglhfeookhaaaRows
import Derived.WalkKit
import Derived.ProofKit
import Derived.OpenShut
import Derived.ShutString
import Derived.ChangeOld
import Derived.Below
import Derived.SizedLaws
section
/- The stable sort of the standard library, on what the walks say that it computes: a sorted permutation. -/
namespace Go.Proofs.Ytikglhfeookhaaa.M
open Go.RowKit Go.Proofs.YtikglhfeookhaaaW.PrintWords
set_option linter.unusedVariables false
theorem slices_swapRangeCmpFunc_int__split_ranked_1.swap (s : List Int) (b0 n : Int) : ∀ (A B P M S : List Int) (a i : Int), A.length = B.length → a + i = (P.length : Int) → b0 + i = (P.length : Int) + A.length + M.length → n = i + A.length → 0 ≤ a → 0 ≤ i → (P ++ A ++ M ++ B ++ S).length < 1000000 →
    Ev (fun k => slices_swapRangeCmpFunc_int__split_ranked_1.l0 k (P ++ A ++ M ++ B ++ S) a b0 n i) (P ++ B ++ M ++ A ++ S)
  | [], B, P, M, S, a, i, hl, ha, hb, hn, _, _, _ => by
    obtain rfl : B = [] := List.eq_nil_of_length_eq_zero hl.symm
    refine Ev.succ ?_
    have h : ¬ i < n := by simp at hn; omega
    simp only [slices_swapRangeCmpFunc_int__split_ranked_1.l0, if_neg h]
    exact Ev.const _
  | u :: A, B, P, M, S, a, i, hl, ha, hb, hn, h0, h1, hs => by
    obtain ⟨v, B, rfl⟩ : ∃ v B', B = v :: B' := by
      cases B with
      | nil => simp at hl
      | cons v B => exact ⟨v, B, rfl⟩
    simp only [List.length_cons] at hl hn hb
    simp only [List.length_append, List.length_cons] at hs
    have ih := slices_swapRangeCmpFunc_int__split_ranked_1.swap s b0 n A B (P ++ [v]) (M ++ [u]) S a (i + 1) (by omega) (by simp; omega) (by simp; omega) (by omega) h0 (by omega) (by simp only [List.length_append, List.length_cons, List.length_nil]; omega)
    refine Ev.succ ?_
    have e1 : wrap64 (a + i) = a + i := w64 (by omega) (by omega)
    have e2 : wrap64 (b0 + i) = b0 + i := w64 (by omega) (by omega)
    have e3 : wrap64 (i + 1) = i + 1 := w64 (by omega) (by omega)
    have r1 : rd (P ++ u :: A ++ M ++ v :: B ++ S) (a + i) = u := by
      rw [show P ++ u :: A ++ M ++ v :: B ++ S = P ++ u :: (A ++ M ++ v :: B ++ S) by simp]; exact rd_at _ _ _ _ ha
    have r2 : rd (P ++ u :: A ++ M ++ v :: B ++ S) (b0 + i) = v := by
      rw [show P ++ u :: A ++ M ++ v :: B ++ S = (P ++ u :: A ++ M) ++ v :: (B ++ S) by simp]; exact rd_at _ _ _ _ (by simp; omega)
    have s1 : (P ++ u :: A ++ M ++ v :: B ++ S).set (a + i).toNat v = P ++ v :: A ++ M ++ v :: B ++ S := by
      rw [show P ++ u :: A ++ M ++ v :: B ++ S = P ++ u :: (A ++ M ++ v :: B ++ S) by simp, set_at _ _ _ _ _ ha]; simp
    have s2 : (P ++ v :: A ++ M ++ v :: B ++ S).set (b0 + i).toNat u = P ++ v :: A ++ M ++ u :: B ++ S := by
      rw [show P ++ v :: A ++ M ++ v :: B ++ S = (P ++ v :: A ++ M) ++ v :: (B ++ S) by simp, set_at _ _ _ _ _ (by simp; omega)]; simp
    have hlen : ((P ++ u :: A ++ M ++ v :: B ++ S).length : Int) = P.length + A.length + M.length + B.length + S.length + 2 := by simp; omega
    have g0 : i < n := by omega
    have g1 : 0 ≤ b0 + i := by omega
    have g2 : b0 + i < ((P ++ u :: A ++ M ++ v :: B ++ S).length : Int) := by omega
    have g3 : 0 ≤ a + i := by omega
    have g4 : a + i < ((P ++ u :: A ++ M ++ v :: B ++ S).length : Int) := by omega
    simp only [slices_swapRangeCmpFunc_int__split_ranked_1.l0, e1, e2, e3, if_pos g0, if_pos g1, if_pos g2, if_pos g3, if_pos g4, r1, r2, s1, s2]
    rw [show P ++ v :: A ++ M ++ u :: B ++ S = (P ++ [v]) ++ A ++ (M ++ [u]) ++ B ++ S by simp, show P ++ v :: B ++ M ++ u :: A ++ S = (P ++ [v]) ++ B ++ (M ++ [u]) ++ A ++ S by simp]
    exact ih
theorem slices_swapRangeCmpFunc_int__split_ranked_1.f_swap (s A B P M S : List Int) (a b n : Int) (hl : A.length = B.length) (ha : a = (P.length : Int)) (hb : b = (P.length : Int) + A.length + M.length) (hn : n = A.length) (hs : (P ++ A ++ M ++ B ++ S).length < 1000000) :
    Ev (fun k => slices_swapRangeCmpFunc_int__split_ranked_1.f k (P ++ A ++ M ++ B ++ S) a b n s) (P ++ B ++ M ++ A ++ S) :=
  slices_swapRangeCmpFunc_int__split_ranked_1.swap s b n A B P M S a 0 hl (by omega) (by omega) (by omega) (by omega) (by omega) hs
theorem slices_rotateCmpFunc_int__split_ranked_1.rot (s : List Int) : ∀ (N : Nat) (P A B S : List Int) (m i j : Int), A.length + B.length ≤ N → 0 < A.length → 0 < B.length → i = A.length → j = B.length → m = (P.length : Int) + A.length → (P ++ A ++ B ++ S).length < 1000000 →
    Ev (fun k => slices_rotateCmpFunc_int__split_ranked_1.l0 k (P ++ A ++ B ++ S) m i j s) (P ++ B ++ A ++ S)
  | 0, P, A, B, S, m, i, j, hN, hA, hB, _, _, _, _ => by omega
  | N + 1, P, A, B, S, m, i, j, hN, hA, hB, hi, hj, hm, hs => by
    refine Ev.succ ?_
    have hs' : P.length + A.length + B.length + S.length < 1000000 := by simpa [Nat.add_assoc] using hs
    have e1 : wrap64 (m - i) = m - i := w64 (by omega) (by omega)
    by_cases h1 : i = j
    · simp only [slices_rotateCmpFunc_int__split_ranked_1.l0, if_pos h1, e1]
      have h := slices_swapRangeCmpFunc_int__split_ranked_1.f_swap s A B P [] S (m - i) m i (by omega) (by omega) (by simp; omega) (by omega) (by simp; omega)
      simp only [List.append_nil] at h
      exact Ev.bind h (Ev.const _)
    · by_cases h2 : i > j
      · simp only [slices_rotateCmpFunc_int__split_ranked_1.l0, if_neg h1, if_pos h2, e1]
        obtain ⟨A1, A2, rfl, l1, l2⟩ := split_at A B.length (by omega)
        simp only [List.length_append] at *
        have h := slices_swapRangeCmpFunc_int__split_ranked_1.f_swap s A1 B P A2 S (m - i) m j (by omega) (by omega) (by omega) (by omega) (by simp; omega)
        have ih := slices_rotateCmpFunc_int__split_ranked_1.rot s N (P ++ B) A2 A1 S m (i - j) j (by omega) (by omega) (by omega) (by omega) (by omega) (by simp; omega) (by simp; omega)
        have e2 : wrap64 (i - j) = i - j := w64 (by omega) (by omega)
        rw [e2]
        refine Ev.bind (a := P ++ B ++ A2 ++ A1 ++ S) ?_ ?_
        · simpa [List.append_assoc] using h
        · simpa [List.append_assoc] using ih
      · simp only [slices_rotateCmpFunc_int__split_ranked_1.l0, if_neg h1, if_neg h2, e1]
        obtain ⟨B1, B2, rfl, l1, l2⟩ := split_at B (B.length - A.length) (by omega)
        simp only [List.length_append] at *
        have e2 : wrap64 (wrap64 (m + j) - i) = m + j - i := by rw [w64 (n := m + j) (by omega) (by omega)]; exact w64 (by omega) (by omega)
        have e3 : wrap64 (j - i) = j - i := w64 (by omega) (by omega)
        have h := slices_swapRangeCmpFunc_int__split_ranked_1.f_swap s A B2 P B1 S (m - i) (m + j - i) i (by omega) (by omega) (by omega) (by omega) (by simp; omega)
        have ih := slices_rotateCmpFunc_int__split_ranked_1.rot s N P B2 B1 (A ++ S) m i (j - i) (by omega) (by omega) (by omega) (by omega) (by omega) (by omega) (by simp; omega)
        rw [e2, e3]
        refine Ev.bind (a := P ++ B2 ++ B1 ++ A ++ S) ?_ ?_
        · simpa [List.append_assoc] using h
        · simpa [List.append_assoc] using ih
theorem slices_rotateCmpFunc_int__split_ranked_1.f_rot (s P A B S : List Int) (a m b : Int) (hA : 0 < A.length) (hB : 0 < B.length) (ha : a = P.length) (hm : m = (P.length : Int) + A.length) (hb : b = (P.length : Int) + A.length + B.length) (hs : (P ++ A ++ B ++ S).length < 1000000) :
    Ev (fun k => slices_rotateCmpFunc_int__split_ranked_1.f k (P ++ A ++ B ++ S) a m b s) (P ++ B ++ A ++ S) := by
  have hs' : P.length + A.length + B.length + S.length < 1000000 := by simpa [Nat.add_assoc] using hs
  have e1 : wrap64 (m - a) = m - a := w64 (by omega) (by omega)
  have e2 : wrap64 (b - m) = b - m := w64 (by omega) (by omega)
  simp only [slices_rotateCmpFunc_int__split_ranked_1.f, e1, e2]
  exact slices_rotateCmpFunc_int__split_ranked_1.rot s _ P A B S m (m - a) (b - m) (Nat.le_refl _) hA hB (by omega) (by omega) hm hs
/-- A strict total order. -/
structure Tot (lt : Int → Int → Prop) : Prop where
  trans : ∀ x y z, lt x y → lt y z → lt x z
  tot : ∀ x y, x ≠ y → lt x y ∨ lt y x
  irr : ∀ x, ¬ lt x x
theorem Tot.asym {lt : Int → Int → Prop} (o : Tot lt) {x y : Int} (h : lt x y) : ¬ lt y x := fun k => o.irr x (o.trans _ _ _ h k)
/-- The comparison of a later one with an earlier one is the order's. -/
def Cm (s : List Int) (lt : Int → Int → Prop) (x y : Int) : Prop := x ≠ y ∧ ∃ v, split_ranked_1.f y x s = some v ∧ (v < 0 ↔ lt y x)
theorem slices_insertionSortCmpFunc_int__split_ranked_1.in1 (s : List Int) (lt : Int → Int → Prop) (o : Tot lt) (a b i : Int) (u : Int) (P T : List Int) (ha : a = (P.length : Int)) : ∀ (N : Nat) (L1 L2 : List Int) (j : Int), L1.length = N → j = a + N → (∀ y ∈ L1, Cm s lt y u) → (L1 ++ L2).Pairwise lt → (∀ y ∈ L2, lt u y) → (P ++ (L1 ++ u :: L2) ++ T).length < 1000000 →
    ∃ L', L'.Perm (L1 ++ u :: L2) ∧ L'.Pairwise lt ∧ ∀ r, Ev (fun k => slices_insertionSortCmpFunc_int__split_ranked_1.l0 k (P ++ L' ++ T) a b (wrap64 (i + 1)) s) r → Ev (fun k => slices_insertionSortCmpFunc_int__split_ranked_1.l1 k (P ++ (L1 ++ u :: L2) ++ T) a b i j s) r
  | 0, L1, L2, j, hN, hj, hc, hp, hu, hs => by
    obtain rfl : L1 = [] := List.eq_nil_of_length_eq_zero hN
    refine ⟨u :: L2, List.Perm.refl _, List.pairwise_cons.2 ⟨hu, by simpa using hp⟩, fun r h => Ev.succ ?_⟩
    have g : ¬ j > a := by simp at hj; omega
    simp only [slices_insertionSortCmpFunc_int__split_ranked_1.l1, if_neg g]
    exact h
  | N + 1, L1, L2, j, hN, hj, hc, hp, hu, hs => by
    obtain ⟨L1, y, rfl⟩ : ∃ L y, L1 = L ++ [y] := by
      have hne : L1 ≠ [] := by intro h; rw [h] at hN; simp at hN
      exact ⟨L1.dropLast, L1.getLast hne, (List.dropLast_concat_getLast hne).symm⟩
    have hN' : L1.length = N := by simpa using hN
    have hs' : P.length + L1.length + L2.length + T.length + 2 < 1000000 := by simp only [List.length_append, List.length_cons, List.length_nil] at hs; omega
    obtain ⟨hne, v, hv, hvl⟩ := hc y (by simp)
    have e1 : wrap64 (j - 1) = j - 1 := w64 (by omega) (by omega)
    have r1 : rd (P ++ (L1 ++ [y] ++ u :: L2) ++ T) j = u := by
      rw [show P ++ (L1 ++ [y] ++ u :: L2) ++ T = (P ++ L1 ++ [y]) ++ u :: (L2 ++ T) by simp]; exact rd_at _ _ _ _ (by simp; omega)
    have r2 : rd (P ++ (L1 ++ [y] ++ u :: L2) ++ T) (j - 1) = y := by
      rw [show P ++ (L1 ++ [y] ++ u :: L2) ++ T = (P ++ L1) ++ y :: (u :: L2 ++ T) by simp]; exact rd_at _ _ _ _ (by simp; omega)
    have s1 : (P ++ (L1 ++ [y] ++ u :: L2) ++ T).set j.toNat y = P ++ (L1 ++ [y] ++ y :: L2) ++ T := by
      rw [show P ++ (L1 ++ [y] ++ u :: L2) ++ T = (P ++ L1 ++ [y]) ++ u :: (L2 ++ T) by simp, set_at _ _ _ _ _ (by simp; omega)]; simp
    have s2 : (P ++ (L1 ++ [y] ++ y :: L2) ++ T).set (j - 1).toNat u = P ++ (L1 ++ u :: (y :: L2)) ++ T := by
      rw [show P ++ (L1 ++ [y] ++ y :: L2) ++ T = (P ++ L1) ++ y :: (y :: L2 ++ T) by simp, set_at _ _ _ _ _ (by simp; omega)]; simp
    have hlen : ((P ++ (L1 ++ [y] ++ u :: L2) ++ T).length : Int) = P.length + L1.length + L2.length + T.length + 2 := by simp; omega
    have g0 : j > a := by omega
    have g1 : 0 ≤ j := by omega
    have g2 : j < ((P ++ (L1 ++ [y] ++ u :: L2) ++ T).length : Int) := by omega
    have g3 : 0 ≤ j - 1 := by omega
    have g4 : j - 1 < ((P ++ (L1 ++ [y] ++ u :: L2) ++ T).length : Int) := by omega
    by_cases hlt : lt u y
    · obtain ⟨L', q1, q2, q3⟩ := slices_insertionSortCmpFunc_int__split_ranked_1.in1 s lt o a b i u P T ha N L1 (y :: L2) (j - 1) hN' (by omega) (fun z hz => hc z (by simp [hz])) (by simpa using hp) (fun z hz => by
        rcases List.mem_cons.1 hz with rfl | hz
        · exact hlt
        · exact hu z hz) (by simp only [List.length_append, List.length_cons]; omega)
      refine ⟨L', q1.trans ?_, q2, fun r h => Ev.succ ?_⟩
      · rw [List.append_assoc]
        exact List.Perm.append_left L1 (List.Perm.swap y u L2)
      · have hv0 : v < 0 := hvl.2 hlt
        simp only [slices_insertionSortCmpFunc_int__split_ranked_1.l1, if_pos g0, e1, if_pos g1, if_pos g2, if_pos g3, if_pos g4, r1, r2, hv, Option.bind_some, if_pos hv0, s1, s2]
        exact q3 r h
    · have hv0 : ¬ v < 0 := fun k => hlt (hvl.1 k)
      have hyu : lt y u := (o.tot y u hne).resolve_right hlt
      refine ⟨L1 ++ [y] ++ u :: L2, List.Perm.refl _, ?_, fun r h => Ev.succ ?_⟩
      · obtain ⟨p1, p2, p3⟩ := List.pairwise_append.1 hp
        refine List.pairwise_append.2 ⟨p1, List.pairwise_cons.2 ⟨hu, p2⟩, fun z hz w hw => ?_⟩
        rcases List.mem_cons.1 hw with rfl | hw
        · rcases List.mem_append.1 hz with hz1 | hz1
          · exact o.trans _ _ _ ((List.pairwise_append.1 p1).2.2 z hz1 y (by simp)) hyu
          · rw [List.mem_singleton.1 hz1]; exact hyu
        · exact p3 z hz w hw
      · simp only [slices_insertionSortCmpFunc_int__split_ranked_1.l1, if_pos g0, e1, if_pos g1, if_pos g2, if_pos g3, if_pos g4, r1, r2, hv, Option.bind_some, if_neg hv0]
        exact h
theorem slices_insertionSortCmpFunc_int__split_ranked_1.out (s : List Int) (lt : Int → Int → Prop) (o : Tot lt) (a b : Int) (P T : List Int) (ha : a = (P.length : Int)) : ∀ (R L : List Int) (i : Int), i = a + L.length → b = i + R.length → L.Pairwise lt → (∀ x ∈ L, ∀ y ∈ R, Cm s lt x y) → R.Pairwise (Cm s lt) → (P ++ (L ++ R) ++ T).length < 1000000 →
    ∃ M, M.Perm (L ++ R) ∧ M.Pairwise lt ∧ Ev (fun k => slices_insertionSortCmpFunc_int__split_ranked_1.l0 k (P ++ (L ++ R) ++ T) a b i s) (P ++ M ++ T)
  | [], L, i, hi, hb, hp, _, _, _ => by
    refine ⟨L, by simp, hp, Ev.succ ?_⟩
    have g : ¬ i < b := by simp at hb; omega
    simp only [slices_insertionSortCmpFunc_int__split_ranked_1.l0, if_neg g, List.append_nil]
    exact Ev.const _
  | u :: R, L, i, hi, hb, hp, hc, hr, hs => by
    have hs' : P.length + L.length + R.length + T.length + 1 < 1000000 := by simp only [List.length_append, List.length_cons] at hs; omega
    simp only [List.length_cons] at hb
    obtain ⟨L', q1, q2, q3⟩ := slices_insertionSortCmpFunc_int__split_ranked_1.in1 s lt o a b i u P (R ++ T) ha L.length L [] i rfl hi (fun y hy => hc y hy u (by simp)) (by simpa using hp) (by simp) (by simp only [List.length_append, List.length_cons, List.length_nil]; omega)
    have e1 : wrap64 (i + 1) = i + 1 := w64 (by omega) (by omega)
    have hl' : L'.length = L.length + 1 := by simpa using q1.length_eq
    obtain ⟨M, m1, m2, m3⟩ := slices_insertionSortCmpFunc_int__split_ranked_1.out s lt o a b P T ha R L' (i + 1) (by omega) (by omega) q2 (fun x hx y hy => by
      rcases List.mem_append.1 (q1.mem_iff.1 hx) with h | h
      · exact hc x h y (by simp [hy])
      · obtain rfl : x = u := by simpa using h
        exact (List.pairwise_cons.1 hr).1 y hy) (List.pairwise_cons.1 hr).2 (by simp only [List.length_append]; omega)
    refine ⟨M, m1.trans ?_, m2, Ev.succ ?_⟩
    · have := List.Perm.append_right R q1
      simpa using this
    · have g : i < b := by omega
      simp only [slices_insertionSortCmpFunc_int__split_ranked_1.l0, if_pos g]
      have := q3 (P ++ M ++ T) (by rw [e1]; simpa using m3)
      simpa using this
theorem slices_insertionSortCmpFunc_int__split_ranked_1.f_sort (s : List Int) (lt : Int → Int → Prop) (o : Tot lt) (a b : Int) (P R T : List Int) (ha : a = (P.length : Int)) (hb : b = a + R.length) (hr : R.Pairwise (Cm s lt)) (hs : (P ++ R ++ T).length < 1000000) :
    ∃ M, M.Perm R ∧ M.Pairwise lt ∧ Ev (fun k => slices_insertionSortCmpFunc_int__split_ranked_1.f k (P ++ R ++ T) a b s) (P ++ M ++ T) := by
  have hs' : P.length + R.length + T.length < 1000000 := by simpa [Nat.add_assoc] using hs
  have e1 : wrap64 (a + 1) = a + 1 := w64 (by omega) (by omega)
  simp only [slices_insertionSortCmpFunc_int__split_ranked_1.f, e1]
  cases R with
  | nil =>
    refine ⟨[], List.Perm.refl _, List.Pairwise.nil, Ev.succ ?_⟩
    have g : ¬ a + 1 < b := by simp at hb; omega
    simp only [slices_insertionSortCmpFunc_int__split_ranked_1.l0, if_neg g]
    exact Ev.const _
  | cons u R =>
    simp only [List.length_cons] at hb
    have h := slices_insertionSortCmpFunc_int__split_ranked_1.out s lt o a b P T ha R [u] (a + 1) (by simp) (by omega) (by simp) (fun x hx y hy => by
      obtain rfl : x = u := by simpa using hx
      exact (List.pairwise_cons.1 hr).1 y hy) (List.pairwise_cons.1 hr).2 (by simpa using hs)
    simpa using h
theorem slices_symMergeCmpFunc_int__split_ranked_1.up (P T : List Int) (u : Int) (i : Int) : ∀ (R : List Int) (P : List Int) (kk : Int), kk = (P.length : Int) → i = kk + 1 + R.length → (P ++ u :: R ++ T).length < 1000000 → Ev (fun k => slices_symMergeCmpFunc_int__split_ranked_1.l1 k (P ++ u :: R ++ T) i kk) (P ++ R ++ u :: T)
  | [], P, kk, hk, hi, hs => by
    refine Ev.succ ?_
    have hs' : P.length + T.length + 1 < 1000000 := by simp only [List.length_append, List.length_cons, List.length_nil] at hs; omega
    have e1 : wrap64 (i - 1) = i - 1 := w64 (by simp at hi; omega) (by simp at hi; omega)
    have g : ¬ kk < i - 1 := by simp at hi; omega
    simp only [slices_symMergeCmpFunc_int__split_ranked_1.l1, e1, if_neg g]
    simpa using Ev.const _
  | y :: R, P, kk, hk, hi, hs => by
    have hs' : P.length + R.length + T.length + 2 < 1000000 := by simp only [List.length_append, List.length_cons] at hs; omega
    simp only [List.length_cons] at hi
    have e1 : wrap64 (i - 1) = i - 1 := w64 (by omega) (by omega)
    have e2 : wrap64 (kk + 1) = kk + 1 := w64 (by omega) (by omega)
    have r1 : rd (P ++ u :: y :: R ++ T) kk = u := by
      rw [show P ++ u :: y :: R ++ T = P ++ u :: (y :: R ++ T) by simp]; exact rd_at _ _ _ _ hk
    have r2 : rd (P ++ u :: y :: R ++ T) (kk + 1) = y := by
      rw [show P ++ u :: y :: R ++ T = (P ++ [u]) ++ y :: (R ++ T) by simp]; exact rd_at _ _ _ _ (by simp; omega)
    have s1 : (P ++ u :: y :: R ++ T).set kk.toNat y = P ++ y :: y :: R ++ T := by
      rw [show P ++ u :: y :: R ++ T = P ++ u :: (y :: R ++ T) by simp, set_at _ _ _ _ _ hk]; simp
    have s2 : (P ++ y :: y :: R ++ T).set (kk + 1).toNat u = (P ++ [y]) ++ u :: R ++ T := by
      rw [show P ++ y :: y :: R ++ T = (P ++ [y]) ++ y :: (R ++ T) by simp, set_at _ _ _ _ _ (by simp; omega)]; simp
    have hlen : ((P ++ u :: y :: R ++ T).length : Int) = P.length + R.length + T.length + 2 := by simp; omega
    have g0 : kk < i - 1 := by omega
    have g1 : 0 ≤ kk := by omega
    have g2 : kk < ((P ++ u :: y :: R ++ T).length : Int) := by omega
    have g3 : 0 ≤ kk + 1 := by omega
    have g4 : kk + 1 < ((P ++ u :: y :: R ++ T).length : Int) := by omega
    have ih := slices_symMergeCmpFunc_int__split_ranked_1.up P T u i R (P ++ [y]) (kk + 1) (by simp; omega) (by omega) (by simp only [List.length_append, List.length_cons, List.length_nil]; omega)
    refine Ev.succ ?_
    simp only [slices_symMergeCmpFunc_int__split_ranked_1.l1, e1, e2, if_pos g0, if_pos g1, if_pos g2, if_pos g3, if_pos g4, r1, r2, s1, s2]
    simpa using ih
theorem slices_symMergeCmpFunc_int__split_ranked_1.down (P : List Int) (u : Int) (i : Int) (hi : i = (P.length : Int)) : ∀ (N : Nat) (L T : List Int) (kk : Int), L.length = N → kk = i + N → (P ++ L ++ u :: T).length < 1000000 → Ev (fun k => slices_symMergeCmpFunc_int__split_ranked_1.l3 k (P ++ L ++ u :: T) i kk) (P ++ u :: L ++ T)
  | 0, L, T, kk, hN, hk, hs => by
    obtain rfl : L = [] := List.eq_nil_of_length_eq_zero hN
    refine Ev.succ ?_
    have g : ¬ kk > i := by simp at hk; omega
    simp only [slices_symMergeCmpFunc_int__split_ranked_1.l3, if_neg g]
    simpa using Ev.const _
  | N + 1, L, T, kk, hN, hk, hs => by
    obtain ⟨L, y, rfl⟩ : ∃ L' y, L = L' ++ [y] := by
      have hne : L ≠ [] := by intro h; rw [h] at hN; simp at hN
      exact ⟨L.dropLast, L.getLast hne, (List.dropLast_concat_getLast hne).symm⟩
    have hN' : L.length = N := by simpa using hN
    have hs' : P.length + L.length + T.length + 2 < 1000000 := by simp only [List.length_append, List.length_cons, List.length_nil] at hs; omega
    have e1 : wrap64 (kk - 1) = kk - 1 := w64 (by omega) (by omega)
    have r1 : rd (P ++ (L ++ [y]) ++ u :: T) kk = u := rd_at _ _ _ _ (by simp; omega)
    have r2 : rd (P ++ (L ++ [y]) ++ u :: T) (kk - 1) = y := by
      rw [show P ++ (L ++ [y]) ++ u :: T = (P ++ L) ++ y :: (u :: T) by simp]; exact rd_at _ _ _ _ (by simp; omega)
    have s1 : (P ++ (L ++ [y]) ++ u :: T).set kk.toNat y = P ++ (L ++ [y]) ++ y :: T := set_at _ _ _ _ _ (by simp; omega)
    have s2 : (P ++ (L ++ [y]) ++ y :: T).set (kk - 1).toNat u = P ++ L ++ u :: (y :: T) := by
      rw [show P ++ (L ++ [y]) ++ y :: T = (P ++ L) ++ y :: (y :: T) by simp, set_at _ _ _ _ _ (by simp; omega)]
    have hlen : ((P ++ (L ++ [y]) ++ u :: T).length : Int) = P.length + L.length + T.length + 2 := by simp; omega
    have g0 : kk > i := by omega
    have g1 : 0 ≤ kk := by omega
    have g2 : kk < ((P ++ (L ++ [y]) ++ u :: T).length : Int) := by omega
    have g3 : 0 ≤ kk - 1 := by omega
    have g4 : kk - 1 < ((P ++ (L ++ [y]) ++ u :: T).length : Int) := by omega
    have ih := slices_symMergeCmpFunc_int__split_ranked_1.down P u i hi N L (y :: T) (kk - 1) hN' (by omega) (by simp only [List.length_append, List.length_cons]; omega)
    refine Ev.succ ?_
    simp only [slices_symMergeCmpFunc_int__split_ranked_1.l3, e1, if_pos g0, if_pos g1, if_pos g2, if_pos g3, if_pos g4, r1, r2, s1, s2]
    simpa using ih
theorem slices_symMergeCmpFunc_int__split_ranked_1.mid {i j : Int} (h0 : 0 ≤ i) (h1 : i ≤ j) (h2 : j < 2000000) : wrap64 (IntKind.u64.wrap (wrap64 (i + j)) / 2) = (i + j) / 2 := by
  rw [w64 (n := i + j) (by omega) (by omega), u64w (by omega) (by omega)]
  exact w64 (by omega) (by omega)
theorem slices_symMergeCmpFunc_int__split_ranked_1.one_left (s : List Int) (lt : Int → Int → Prop) (o : Tot lt) (P R T : List Int) (u a m b : Int) (ha : a = (P.length : Int)) (hm : m = a + 1) (hb : b = m + R.length) (hR : R.Pairwise lt) (hc : ∀ y ∈ R, Cm s lt u y) (hs : (P ++ [u] ++ R ++ T).length < 1000000) :
    ∃ M, M.Perm ([u] ++ R) ∧ M.Pairwise lt ∧ Ev (fun k => slices_symMergeCmpFunc_int__split_ranked_1.l0 k (P ++ [u] ++ R ++ T) a m b s) (P ++ M ++ T) := by
  have hs' : P.length + R.length + T.length + 1 < 1000000 := by simp only [List.length_append, List.length_cons, List.length_nil] at hs; omega
  have hlen : ((P ++ [u] ++ R ++ T).length : Int) = P.length + R.length + T.length + 1 := by simp; omega
  have ru : rd (P ++ [u] ++ R ++ T) a = u := by
    rw [show P ++ [u] ++ R ++ T = P ++ u :: (R ++ T) by simp]; exact rd_at _ _ _ _ ha
  have hl1 : ((P ++ [u]).length : Int) = m := by simp; omega
  have hmem : ∀ c, m ≤ c → c < b → rd (P ++ [u] ++ R ++ T) c ∈ R := fun c c0 c1 => rd_mem (P ++ [u]) R T c (by omega) (by omega)
  have hlt : ∀ c d, m ≤ c → c < d → d < b → lt (rd (P ++ [u] ++ R ++ T) c) (rd (P ++ [u] ++ R ++ T) d) := fun c d c0 c1 c2 => rd_lt (P ++ [u]) R T hR c d (by omega) c1 (by omega)
  obtain ⟨t, t1, t2, t3, t4, t5⟩ := bsearch (fun i j k => slices_symMergeCmpFunc_int__split_ranked_1.l0 k (P ++ [u] ++ R ++ T) a i j s) (fun i k => slices_symMergeCmpFunc_int__split_ranked_1.l1 k (P ++ [u] ++ R ++ T) i a) (fun c => lt (rd (P ++ [u] ++ R ++ T) c) u) m b
    (fun i j r i0 ij j0 q h => by
      refine Ev.succ ?_
      have e := slices_symMergeCmpFunc_int__split_ranked_1.mid (i := i) (j := j) (by omega) (by omega) (by omega)
      have e2 : wrap64 ((i + j) / 2 + 1) = (i + j) / 2 + 1 := w64 (by omega) (by omega)
      obtain ⟨_, v, hv, hvl⟩ := hc _ (hmem ((i + j) / 2) (by omega) (by omega))
      have hv0 : v < 0 := hvl.2 q
      have g1 : 0 ≤ (i + j) / 2 := by omega
      have g2 : (i + j) / 2 < ((P ++ [u] ++ R ++ T).length : Int) := by omega
      have g3 : 0 ≤ a := by omega
      have g4 : a < ((P ++ [u] ++ R ++ T).length : Int) := by omega
      simp only [slices_symMergeCmpFunc_int__split_ranked_1.l0, e, e2, if_pos ij, if_pos g1, if_pos g2, if_pos g3, if_pos g4, ru, hv, Option.bind_some, if_pos hv0]
      exact h)
    (fun i j r i0 ij j0 q h => by
      refine Ev.succ ?_
      have e := slices_symMergeCmpFunc_int__split_ranked_1.mid (i := i) (j := j) (by omega) (by omega) (by omega)
      obtain ⟨_, v, hv, hvl⟩ := hc _ (hmem ((i + j) / 2) (by omega) (by omega))
      have hv0 : ¬ v < 0 := fun k => q (hvl.1 k)
      have g1 : 0 ≤ (i + j) / 2 := by omega
      have g2 : (i + j) / 2 < ((P ++ [u] ++ R ++ T).length : Int) := by omega
      have g3 : 0 ≤ a := by omega
      have g4 : a < ((P ++ [u] ++ R ++ T).length : Int) := by omega
      simp only [slices_symMergeCmpFunc_int__split_ranked_1.l0, e, if_pos ij, if_pos g1, if_pos g2, if_pos g3, if_pos g4, ru, hv, Option.bind_some, if_neg hv0]
      exact h)
    (fun i r _ _ h => by
      refine Ev.succ ?_
      simp only [slices_symMergeCmpFunc_int__split_ranked_1.l0, if_neg (Int.lt_irrefl i)]
      exact h)
    (fun c d c0 c1 c2 q => o.trans _ _ _ (hlt c d c0 c1 c2) q) _ m b (Nat.le_refl _) (by omega) (Int.le_refl _) (Int.le_refl _) (fun c c0 c1 => by omega) (fun c c0 c1 => by omega)
  obtain ⟨R1, R2, rfl, l1, l2⟩ := split_at R (t - m).toNat (by omega)
  rw [List.length_append] at hb
  obtain ⟨p1, p2, p3⟩ := List.pairwise_append.1 hR
  have q1 : ∀ y ∈ R1, lt y u := fun y hy => by
    obtain ⟨c, c0, c1, rfl⟩ := mem_rd (P ++ [u]) R1 (R2 ++ T) y hy
    have := t3 c (by omega) (by omega)
    simpa using this
  have q2 : ∀ y ∈ R2, lt u y := fun y hy => by
    obtain ⟨c, c0, c1, e⟩ := mem_rd (P ++ [u] ++ R1) R2 T y hy
    have := t4 c (by rw [List.length_append] at c0; omega) (by rw [List.length_append] at c1; omega)
    have e' : rd (P ++ [u] ++ (R1 ++ R2) ++ T) c = y := by simpa using e
    rw [e'] at this
    exact (o.tot u y (hc y (by simp [hy])).1).resolve_right this
  refine ⟨R1 ++ u :: R2, ?_, ?_, t5 _ ?_⟩
  · exact List.perm_middle
  · refine List.pairwise_append.2 ⟨p1, List.pairwise_cons.2 ⟨q2, p2⟩, fun y hy z hz => ?_⟩
    rcases List.mem_cons.1 hz with rfl | hz
    · exact q1 y hy
    · exact p3 y hy z hz
  · have := slices_symMergeCmpFunc_int__split_ranked_1.up P (R2 ++ T) u t R1 P a ha (by omega) (by simp only [List.length_append, List.length_cons] at *; omega)
    simpa using this
theorem slices_symMergeCmpFunc_int__split_ranked_1.one_right (s : List Int) (lt : Int → Int → Prop) (o : Tot lt) (P L T : List Int) (u a m b : Int) (ha : a = (P.length : Int)) (hm : m = a + L.length) (hL : L.Pairwise lt) (hc : ∀ x ∈ L, Cm s lt x u) (hs : (P ++ L ++ [u] ++ T).length < 1000000) :
    ∃ M, M.Perm (L ++ [u]) ∧ M.Pairwise lt ∧ Ev (fun k => slices_symMergeCmpFunc_int__split_ranked_1.l2 k (P ++ L ++ [u] ++ T) m a m s) (P ++ M ++ T) := by
  have hs' : P.length + L.length + T.length + 1 < 1000000 := by simp only [List.length_append, List.length_cons, List.length_nil] at hs; omega
  have hlen : ((P ++ L ++ [u] ++ T).length : Int) = P.length + L.length + T.length + 1 := by simp; omega
  have ru : rd (P ++ L ++ [u] ++ T) m = u := by
    rw [show P ++ L ++ [u] ++ T = (P ++ L) ++ u :: T by simp]; exact rd_at _ _ _ _ (by simp; omega)
  have hmem : ∀ c, a ≤ c → c < m → rd (P ++ L ++ [u] ++ T) c ∈ L := fun c c0 c1 => by
    rw [show P ++ L ++ [u] ++ T = P ++ L ++ ([u] ++ T) by simp]; exact rd_mem P L _ c (by omega) (by omega)
  have hlt : ∀ c d, a ≤ c → c < d → d < m → lt (rd (P ++ L ++ [u] ++ T) c) (rd (P ++ L ++ [u] ++ T) d) := fun c d c0 c1 c2 => by
    rw [show P ++ L ++ [u] ++ T = P ++ L ++ ([u] ++ T) by simp]; exact rd_lt P L _ hL c d (by omega) c1 (by omega)
  obtain ⟨t, t1, t2, t3, t4, t5⟩ := bsearch (fun i j k => slices_symMergeCmpFunc_int__split_ranked_1.l2 k (P ++ L ++ [u] ++ T) m i j s) (fun i k => slices_symMergeCmpFunc_int__split_ranked_1.l3 k (P ++ L ++ [u] ++ T) i m) (fun c => ¬ lt u (rd (P ++ L ++ [u] ++ T) c)) a m
    (fun i j r i0 ij j0 q h => by
      refine Ev.succ ?_
      have e := slices_symMergeCmpFunc_int__split_ranked_1.mid (i := i) (j := j) (by omega) (by omega) (by omega)
      have e2 : wrap64 ((i + j) / 2 + 1) = (i + j) / 2 + 1 := w64 (by omega) (by omega)
      obtain ⟨_, v, hv, hvl⟩ := hc _ (hmem ((i + j) / 2) (by omega) (by omega))
      have hv0 : ¬ v < 0 := fun k => q (hvl.1 k)
      have g1 : 0 ≤ (i + j) / 2 := by omega
      have g2 : (i + j) / 2 < ((P ++ L ++ [u] ++ T).length : Int) := by omega
      have g3 : 0 ≤ m := by omega
      have g4 : m < ((P ++ L ++ [u] ++ T).length : Int) := by omega
      simp only [slices_symMergeCmpFunc_int__split_ranked_1.l2, e, e2, if_pos ij, if_pos g1, if_pos g2, if_pos g3, if_pos g4, ru, hv, Option.bind_some, if_neg hv0]
      exact h)
    (fun i j r i0 ij j0 q h => by
      refine Ev.succ ?_
      have e := slices_symMergeCmpFunc_int__split_ranked_1.mid (i := i) (j := j) (by omega) (by omega) (by omega)
      obtain ⟨_, v, hv, hvl⟩ := hc _ (hmem ((i + j) / 2) (by omega) (by omega))
      have hv0 : v < 0 := hvl.2 (Classical.not_not.1 q)
      have g1 : 0 ≤ (i + j) / 2 := by omega
      have g2 : (i + j) / 2 < ((P ++ L ++ [u] ++ T).length : Int) := by omega
      have g3 : 0 ≤ m := by omega
      have g4 : m < ((P ++ L ++ [u] ++ T).length : Int) := by omega
      simp only [slices_symMergeCmpFunc_int__split_ranked_1.l2, e, if_pos ij, if_pos g1, if_pos g2, if_pos g3, if_pos g4, ru, hv, Option.bind_some, if_pos hv0]
      exact h)
    (fun i r _ _ h => by
      refine Ev.succ ?_
      simp only [slices_symMergeCmpFunc_int__split_ranked_1.l2, if_neg (Int.lt_irrefl i)]
      exact h)
    (fun c d c0 c1 c2 q k => q (o.trans _ _ _ k (hlt c d c0 c1 c2))) _ a m (Nat.le_refl _) (by omega) (Int.le_refl _) (Int.le_refl _) (fun c c0 c1 => by omega) (fun c c0 c1 => by omega)
  obtain ⟨L1, L2, rfl, l1, l2⟩ := split_at L (t - a).toNat (by omega)
  rw [List.length_append] at hm
  obtain ⟨p1, p2, p3⟩ := List.pairwise_append.1 hL
  have q1 : ∀ y ∈ L1, lt y u := fun y hy => by
    obtain ⟨c, c0, c1, e⟩ := mem_rd P L1 (L2 ++ [u] ++ T) y hy
    have := t3 c (by omega) (by omega)
    have e' : rd (P ++ (L1 ++ L2) ++ [u] ++ T) c = y := by simpa using e
    rw [e'] at this
    exact (o.tot u y (Ne.symm (hc y (by simp [hy])).1)).resolve_left this
  have q2 : ∀ y ∈ L2, lt u y := fun y hy => by
    obtain ⟨c, c0, c1, e⟩ := mem_rd (P ++ L1) L2 ([u] ++ T) y hy
    have := Classical.not_not.1 (t4 c (by rw [List.length_append] at c0; omega) (by rw [List.length_append] at c1; omega))
    have e' : rd (P ++ (L1 ++ L2) ++ [u] ++ T) c = y := by simpa using e
    rwa [e'] at this
  refine ⟨L1 ++ u :: L2, ?_, ?_, t5 _ ?_⟩
  · rw [List.append_assoc]
    exact List.Perm.append_left L1 (List.perm_append_comm (l₁ := [u]) (l₂ := L2))
  · refine List.pairwise_append.2 ⟨p1, List.pairwise_cons.2 ⟨q2, p2⟩, fun y hy z hz => ?_⟩
    rcases List.mem_cons.1 hz with rfl | hz
    · exact q1 y hy
    · exact p3 y hy z hz
  · have := slices_symMergeCmpFunc_int__split_ranked_1.down (P ++ L1) u t (by rw [List.length_append]; omega) L2.length L2 T m rfl (by omega) (by simp only [List.length_append, List.length_cons, List.length_nil] at *; omega)
    simpa using this
/-- What is proved of a merge of two neighbours. -/
def slices_symMergeCmpFunc_int__split_ranked_1.Ok (s : List Int) (lt : Int → Int → Prop) (P L R T : List Int) (a m b : Int) : Prop :=
  ∃ M, M.Perm (L ++ R) ∧ M.Pairwise lt ∧ Ev (fun k => slices_symMergeCmpFunc_int__split_ranked_1.f k (P ++ L ++ R ++ T) a m b s) (P ++ M ++ T)
theorem slices_symMergeCmpFunc_int__split_ranked_1.tail (s : List Int) (lt : Int → Int → Prop) (P L1 R1 L2 R2 T : List Int) (a mid start fin b : Int) (ha : a = (P.length : Int)) (hst : start = a + L1.length) (hmid : mid = start + R1.length) (hfin : fin = mid + L2.length) (hb : b = fin + R2.length)
    (hL1 : L1.Pairwise lt) (hR1 : R1.Pairwise lt) (hL2 : L2.Pairwise lt) (hR2 : R2.Pairwise lt)
    (f1 : ∀ x ∈ L1, ∀ y ∈ L2, lt x y) (f2 : ∀ x ∈ L1, ∀ y ∈ R2, lt x y) (f3 : ∀ x ∈ R1, ∀ y ∈ L2, lt x y) (f4 : ∀ x ∈ R1, ∀ y ∈ R2, lt x y)
    (h1 : 0 < L1.length → 0 < R1.length → ∀ T', (P ++ L1 ++ R1 ++ T').length < 1000000 → slices_symMergeCmpFunc_int__split_ranked_1.Ok s lt P L1 R1 T' a start mid)
    (h2 : 0 < L2.length → 0 < R2.length → ∀ P', mid = (P'.length : Int) → (P' ++ L2 ++ R2 ++ T).length < 1000000 → slices_symMergeCmpFunc_int__split_ranked_1.Ok s lt P' L2 R2 T mid fin b)
    (hs : (P ++ L1 ++ R1 ++ L2 ++ R2 ++ T).length < 1000000) :
    ∃ M, M.Perm (L1 ++ R1 ++ (L2 ++ R2)) ∧ M.Pairwise lt ∧ Ev (fun k => slices_symMergeCmpFunc_int__split_ranked_1.j7 k (P ++ L1 ++ R1 ++ L2 ++ R2 ++ T) a b mid start fin s) (P ++ M ++ T) := by
  simp only [List.length_append] at hs
  obtain ⟨M1, m1, m2, m3, m4⟩ : ∃ M1 : List Int, M1.Perm (L1 ++ R1) ∧ M1.Pairwise lt ∧ (0 < L1.length → 0 < R1.length → Ev (fun k => slices_symMergeCmpFunc_int__split_ranked_1.f k (P ++ L1 ++ R1 ++ L2 ++ R2 ++ T) a start mid s) (P ++ M1 ++ L2 ++ R2 ++ T)) ∧ (¬ (0 < L1.length ∧ 0 < R1.length) → M1 = L1 ++ R1) := by
    by_cases c : 0 < L1.length ∧ 0 < R1.length
    · obtain ⟨M, q1, q2, q3⟩ := h1 c.1 c.2 (L2 ++ R2 ++ T) (by simp only [List.length_append]; omega)
      exact ⟨M, q1, q2, fun _ _ => by simpa using q3, fun h => absurd c h⟩
    · refine ⟨L1 ++ R1, List.Perm.refl _, ?_, fun a b => absurd ⟨a, b⟩ c, fun _ => rfl⟩
      by_cases c1 : L1.length = 0
      · rw [List.eq_nil_of_length_eq_zero c1]; simpa using hR1
      · have c2 : R1.length = 0 := by omega
        rw [List.eq_nil_of_length_eq_zero c2]; simpa using hL1
  have hl1 : M1.length = L1.length + R1.length := by have := m1.length_eq; simpa using this
  obtain ⟨M2, n1, n2, n3, n4⟩ : ∃ M2 : List Int, M2.Perm (L2 ++ R2) ∧ M2.Pairwise lt ∧ (0 < L2.length → 0 < R2.length → Ev (fun k => slices_symMergeCmpFunc_int__split_ranked_1.f k (P ++ M1 ++ L2 ++ R2 ++ T) mid fin b s) (P ++ M1 ++ M2 ++ T)) ∧ (¬ (0 < L2.length ∧ 0 < R2.length) → M2 = L2 ++ R2) := by
    by_cases c : 0 < L2.length ∧ 0 < R2.length
    · obtain ⟨M, q1, q2, q3⟩ := h2 c.1 c.2 (P ++ M1) (by simp; omega) (by simp only [List.length_append]; omega)
      exact ⟨M, q1, q2, fun _ _ => q3, fun h => absurd c h⟩
    · refine ⟨L2 ++ R2, List.Perm.refl _, ?_, fun a b => absurd ⟨a, b⟩ c, fun _ => rfl⟩
      by_cases c1 : L2.length = 0
      · rw [List.eq_nil_of_length_eq_zero c1]; simpa using hR2
      · have c2 : R2.length = 0 := by omega
        rw [List.eq_nil_of_length_eq_zero c2]; simpa using hL2
  refine ⟨M1 ++ M2, m1.append n1, List.pairwise_append.2 ⟨m2, n2, fun x hx y hy => ?_⟩, ?_⟩
  · rcases List.mem_append.1 (m1.mem_iff.1 hx) with hx | hx <;> rcases List.mem_append.1 (n1.mem_iff.1 hy) with hy | hy
    · exact f1 x hx y hy
    · exact f2 x hx y hy
    · exact f3 x hx y hy
    · exact f4 x hx y hy
  have key : Ev (fun k => if fin > mid then (if fin < b then ((slices_symMergeCmpFunc_int__split_ranked_1.f k (P ++ M1 ++ L2 ++ R2 ++ T) mid fin b s).bind fun t => some t) else some (P ++ M1 ++ L2 ++ R2 ++ T)) else some (P ++ M1 ++ L2 ++ R2 ++ T)) (P ++ (M1 ++ M2) ++ T) := by
    by_cases c1 : fin > mid
    · by_cases c2 : fin < b
      · simp only [if_pos c1, if_pos c2]
        refine Ev.bind (n3 (by omega) (by omega)) ?_
        simpa using Ev.const _
      · simp only [if_pos c1, if_neg c2]
        rw [n4 (by omega)]
        simpa using Ev.const _
    · simp only [if_neg c1]
      rw [n4 (by omega)]
      simpa using Ev.const _
  have key2 : Ev (fun k => slices_symMergeCmpFunc_int__split_ranked_1.j8 k (P ++ L1 ++ R1 ++ L2 ++ R2 ++ T) a b mid start fin (decide (a < start ∧ start < mid)) s) (P ++ (M1 ++ M2) ++ T) := by
    refine Ev.succ ?_
    by_cases c : a < start ∧ start < mid
    · simp only [slices_symMergeCmpFunc_int__split_ranked_1.j8, decide_eq_true c, if_true]
      refine Ev.bind (m3 (by omega) (by omega)) ?_
      exact key
    · simp only [slices_symMergeCmpFunc_int__split_ranked_1.j8, decide_eq_false c, Bool.false_eq_true, if_false]
      have e := m4 (by omega)
      rw [show P ++ L1 ++ R1 ++ L2 ++ R2 ++ T = P ++ M1 ++ L2 ++ R2 ++ T by rw [e]; simp]
      exact key
  refine Ev.succ ?_
  by_cases c1 : a < start
  · simp only [slices_symMergeCmpFunc_int__split_ranked_1.j7, if_pos c1]
    simpa [c1] using key2
  · simp only [slices_symMergeCmpFunc_int__split_ranked_1.j7, if_neg c1]
    simpa [c1] using key2
theorem slices_symMergeCmpFunc_int__split_ranked_1.search (s : List Int) (lt : Int → Int → Prop) (o : Tot lt) (P L R T : List Int) (a m b mid n st r : Int) (ha : a = (P.length : Int)) (hm : m = a + L.length) (hb : b = m + R.length) (hL : L.Pairwise lt) (hR : R.Pairwise lt) (hc : ∀ x ∈ L, ∀ y ∈ R, Cm s lt x y) (hs : (P ++ L ++ R ++ T).length < 1000000)
    (hn : n = mid + m) (h0 : a ≤ st) (h1 : st ≤ r) (h2 : r ≤ m) (h3 : n - st ≤ b) (h4 : m ≤ n - r) :
    ∃ t, st ≤ t ∧ t ≤ r ∧ (∀ c, st ≤ c → c < t → lt (rd (P ++ L ++ R ++ T) c) (rd (P ++ L ++ R ++ T) (n - 1 - c))) ∧ (∀ c, t ≤ c → c < r → lt (rd (P ++ L ++ R ++ T) (n - 1 - c)) (rd (P ++ L ++ R ++ T) c)) ∧
      ∀ X, Ev (fun k => slices_symMergeCmpFunc_int__split_ranked_1.j6 k (P ++ L ++ R ++ T) a m b mid t (n - t) (decide (t < m ∧ m < n - t)) s) X → Ev (fun k => slices_symMergeCmpFunc_int__split_ranked_1.l4 k (P ++ L ++ R ++ T) a m b mid n st r (n - 1) s) X := by
  have hs' : P.length + L.length + R.length + T.length < 1000000 := by simp only [List.length_append] at hs; omega
  have hlen : ((P ++ L ++ R ++ T).length : Int) = P.length + L.length + R.length + T.length := by simp only [List.length_append]; omega
  have hmL : ∀ c, a ≤ c → c < m → rd (P ++ L ++ R ++ T) c ∈ L := fun c c0 c1 => by
    rw [show P ++ L ++ R ++ T = P ++ L ++ (R ++ T) by simp]; exact rd_mem P L _ c (by omega) (by omega)
  have hmR : ∀ c, m ≤ c → c < b → rd (P ++ L ++ R ++ T) c ∈ R := fun c c0 c1 => rd_mem (P ++ L) R T c (by rw [List.length_append]; omega) (by rw [List.length_append]; omega)
  have hlL : ∀ c d, a ≤ c → c < d → d < m → lt (rd (P ++ L ++ R ++ T) c) (rd (P ++ L ++ R ++ T) d) := fun c d c0 c1 c2 => by
    rw [show P ++ L ++ R ++ T = P ++ L ++ (R ++ T) by simp]; exact rd_lt P L _ hL c d (by omega) c1 (by omega)
  have hlR : ∀ c d, m ≤ c → c < d → d < b → lt (rd (P ++ L ++ R ++ T) c) (rd (P ++ L ++ R ++ T) d) := fun c d c0 c1 c2 => rd_lt (P ++ L) R T hR c d (by rw [List.length_append]; omega) c1 (by rw [List.length_append]; omega)
  obtain ⟨t, t1, t2, t3, t4, t5⟩ := bsearch (fun i j k => slices_symMergeCmpFunc_int__split_ranked_1.l4 k (P ++ L ++ R ++ T) a m b mid n i j (n - 1) s) (fun t k => slices_symMergeCmpFunc_int__split_ranked_1.j6 k (P ++ L ++ R ++ T) a m b mid t (n - t) (decide (t < m ∧ m < n - t)) s) (fun c => ¬ lt (rd (P ++ L ++ R ++ T) (n - 1 - c)) (rd (P ++ L ++ R ++ T) c)) st r
    (fun i j X i0 ij j0 q h => by
      refine Ev.succ ?_
      have e := slices_symMergeCmpFunc_int__split_ranked_1.mid (i := i) (j := j) (by omega) (by omega) (by omega)
      have e2 : wrap64 ((i + j) / 2 + 1) = (i + j) / 2 + 1 := w64 (by omega) (by omega)
      have e3 : wrap64 (n - 1 - (i + j) / 2) = n - 1 - (i + j) / 2 := w64 (by omega) (by omega)
      obtain ⟨_, v, hv, hvl⟩ := hc _ (hmL ((i + j) / 2) (by omega) (by omega)) _ (hmR (n - 1 - (i + j) / 2) (by omega) (by omega))
      have hv0 : ¬ v < 0 := fun k => q (hvl.1 k)
      have g1 : 0 ≤ (i + j) / 2 := by omega
      have g2 : (i + j) / 2 < ((P ++ L ++ R ++ T).length : Int) := by omega
      have g3 : 0 ≤ n - 1 - (i + j) / 2 := by omega
      have g4 : n - 1 - (i + j) / 2 < ((P ++ L ++ R ++ T).length : Int) := by omega
      simp only [slices_symMergeCmpFunc_int__split_ranked_1.l4, e, e2, e3, if_pos ij, if_pos g1, if_pos g2, if_pos g3, if_pos g4, hv, Option.bind_some, if_neg hv0]
      exact h)
    (fun i j X i0 ij j0 q h => by
      refine Ev.succ ?_
      have e := slices_symMergeCmpFunc_int__split_ranked_1.mid (i := i) (j := j) (by omega) (by omega) (by omega)
      have e3 : wrap64 (n - 1 - (i + j) / 2) = n - 1 - (i + j) / 2 := w64 (by omega) (by omega)
      obtain ⟨_, v, hv, hvl⟩ := hc _ (hmL ((i + j) / 2) (by omega) (by omega)) _ (hmR (n - 1 - (i + j) / 2) (by omega) (by omega))
      have hv0 : v < 0 := hvl.2 (Classical.not_not.1 q)
      have g1 : 0 ≤ (i + j) / 2 := by omega
      have g2 : (i + j) / 2 < ((P ++ L ++ R ++ T).length : Int) := by omega
      have g3 : 0 ≤ n - 1 - (i + j) / 2 := by omega
      have g4 : n - 1 - (i + j) / 2 < ((P ++ L ++ R ++ T).length : Int) := by omega
      simp only [slices_symMergeCmpFunc_int__split_ranked_1.l4, e, e3, if_pos ij, if_pos g1, if_pos g2, if_pos g3, if_pos g4, hv, Option.bind_some, if_pos hv0]
      exact h)
    (fun i X i0 j0 h => by
      refine Ev.succ ?_
      have e3 : wrap64 (n - i) = n - i := w64 (by omega) (by omega)
      by_cases c : i < m
      · simp only [slices_symMergeCmpFunc_int__split_ranked_1.l4, if_neg (Int.lt_irrefl i), if_pos c, e3]
        simpa [c] using h
      · simp only [slices_symMergeCmpFunc_int__split_ranked_1.l4, if_neg (Int.lt_irrefl i), if_neg c, e3]
        simpa [c] using h)
    (fun c d c0 c1 c2 q k => q (o.trans _ _ _ (hlR (n - 1 - d) (n - 1 - c) (by omega) (by omega) (by omega)) (o.trans _ _ _ k (hlL c d (by omega) c1 (by omega))))) _ st r (Nat.le_refl _) h1 (Int.le_refl _) (Int.le_refl _) (fun c c0 c1 => by omega) (fun c c0 c1 => by omega)
  refine ⟨t, t1, t2, fun c c0 c1 => ?_, fun c c0 c1 => Classical.not_not.1 (t4 c c0 c1), t5⟩
  exact (o.tot _ _ (hc _ (hmL c (by omega) (by omega)) _ (hmR (n - 1 - c) (by omega) (by omega))).1).resolve_right (t3 c c0 c1)
theorem slices_symMergeCmpFunc_int__split_ranked_1.merge (s : List Int) (lt : Int → Int → Prop) (o : Tot lt) : ∀ (N : Nat) (P L R T : List Int) (a m b : Int), L.length + R.length ≤ N → 0 < L.length → 0 < R.length → a = (P.length : Int) → m = a + L.length → b = m + R.length → L.Pairwise lt → R.Pairwise lt → (∀ x ∈ L, ∀ y ∈ R, Cm s lt x y) → (P ++ L ++ R ++ T).length < 1000000 → slices_symMergeCmpFunc_int__split_ranked_1.Ok s lt P L R T a m b
  | 0, P, L, R, T, a, m, b, hN, h0, h1, _, _, _, _, _, _, _ => by omega
  | N + 1, P, L, R, T, a, m, b, hN, h0, h1, ha, hm, hb, hL, hR, hc, hs => by
    have hs' : P.length + L.length + R.length + T.length < 1000000 := by simp only [List.length_append] at hs; omega
    have e1 : wrap64 (m - a) = m - a := w64 (by omega) (by omega)
    have e2 : wrap64 (b - m) = b - m := w64 (by omega) (by omega)
    by_cases c1 : m - a = 1
    · obtain ⟨u, rfl⟩ := List.length_eq_one_iff.1 (show L.length = 1 by omega)
      obtain ⟨M, q1, q2, q3⟩ := slices_symMergeCmpFunc_int__split_ranked_1.one_left s lt o P R T u a m b ha (by omega) hb hR (fun y hy => hc u (by simp) y hy) hs
      refine ⟨M, q1, q2, Ev.succ ?_⟩
      simp only [slices_symMergeCmpFunc_int__split_ranked_1.f, e1, if_pos c1]
      exact q3
    by_cases c2 : b - m = 1
    · obtain ⟨u, rfl⟩ := List.length_eq_one_iff.1 (show R.length = 1 by omega)
      obtain ⟨M, q1, q2, q3⟩ := slices_symMergeCmpFunc_int__split_ranked_1.one_right s lt o P L T u a m b ha hm hL (fun x hx => hc x hx u (by simp)) hs
      refine ⟨M, q1, q2, Ev.succ ?_⟩
      simp only [slices_symMergeCmpFunc_int__split_ranked_1.f, e1, e2, if_neg c1, if_pos c2]
      exact q3
    have em := slices_symMergeCmpFunc_int__split_ranked_1.mid (i := a) (j := b) (by omega) (by omega) (by omega)
    obtain ⟨mid, hmid⟩ : ∃ mid, mid = (a + b) / 2 := ⟨_, rfl⟩
    rw [← hmid] at em
    have e3 : wrap64 (mid + m) = mid + m := w64 (by omega) (by omega)
    have e4 : wrap64 (mid + m - b) = mid + m - b := w64 (by omega) (by omega)
    have e5 : wrap64 (mid + m - 1) = mid + m - 1 := w64 (by omega) (by omega)
    -- what follows the search, for any place that it finds
    have fol : ∀ t st r : Int, a ≤ st → st ≤ t → t ≤ r → r ≤ m → t ≤ mid → mid + m - t ≤ b → (∀ c, st ≤ c → c < t → lt (rd (P ++ L ++ R ++ T) c) (rd (P ++ L ++ R ++ T) (mid + m - 1 - c))) → (∀ c, t ≤ c → c < r → lt (rd (P ++ L ++ R ++ T) (mid + m - 1 - c)) (rd (P ++ L ++ R ++ T) c)) → (st = a ∨ mid + m - st = b) → (r = m ∨ r = mid) →
        ∃ M, M.Perm (L ++ R) ∧ M.Pairwise lt ∧ Ev (fun k => slices_symMergeCmpFunc_int__split_ranked_1.j6 k (P ++ L ++ R ++ T) a m b mid t (mid + m - t) (decide (t < m ∧ m < mid + m - t)) s) (P ++ M ++ T) := by
      intro t st r u0 u1 u2 u3 u4 u5 k1 k2 k3 k4
      have hmL : ∀ c d, a ≤ c → c < d → d < m → lt (rd (P ++ L ++ R ++ T) c) (rd (P ++ L ++ R ++ T) d) := fun c d c0 c1 c2 => by
        rw [show P ++ L ++ R ++ T = P ++ L ++ (R ++ T) by simp]; exact rd_lt P L _ hL c d (by omega) c1 (by omega)
      have hmR : ∀ c d, m ≤ c → c < d → d < b → lt (rd (P ++ L ++ R ++ T) c) (rd (P ++ L ++ R ++ T) d) := fun c d c0 c1 c2 => rd_lt (P ++ L) R T hR c d (by rw [List.length_append]; omega) c1 (by rw [List.length_append]; omega)
      have A : ∀ c d, a ≤ c → c < t → mid + m - t ≤ d → d < b → lt (rd (P ++ L ++ R ++ T) c) (rd (P ++ L ++ R ++ T) d) := fun c d c0 c1 d0 d1 => by
        have z := k1 (t - 1) (by omega) (by omega)
        rw [show mid + m - 1 - (t - 1) = mid + m - t by omega] at z
        have z1 : c = t - 1 ∨ c < t - 1 := by omega
        have z2 : d = mid + m - t ∨ mid + m - t < d := by omega
        rcases z1 with rfl | z1 <;> rcases z2 with rfl | z2
        · exact z
        · exact o.trans _ _ _ z (hmR _ _ (by omega) z2 d1)
        · exact o.trans _ _ _ (hmL _ _ c0 z1 (by omega)) z
        · exact o.trans _ _ _ (hmL _ _ c0 z1 (by omega)) (o.trans _ _ _ z (hmR _ _ (by omega) z2 d1))
      have B : ∀ c d, m ≤ c → c < mid + m - t → t ≤ d → d < m → lt (rd (P ++ L ++ R ++ T) c) (rd (P ++ L ++ R ++ T) d) := fun c d c0 c1 d0 d1 => by
        have z := k2 t (by omega) (by omega)
        have z1 : c = mid + m - 1 - t ∨ c < mid + m - 1 - t := by omega
        have z2 : d = t ∨ t < d := by omega
        rcases z1 with rfl | z1 <;> rcases z2 with rfl | z2
        · exact z
        · exact o.trans _ _ _ z (hmL _ _ (by omega) z2 d1)
        · exact o.trans _ _ _ (hmR _ _ c0 z1 (by omega)) z
        · exact o.trans _ _ _ (hmR _ _ c0 z1 (by omega)) (o.trans _ _ _ z (hmL _ _ (by omega) z2 d1))
      obtain ⟨L1, L2, rfl, l1, l2⟩ := split_at L (t - a).toNat (by omega)
      obtain ⟨R1, R2, rfl, l3, l4⟩ := split_at R (mid - t).toNat (by omega)
      simp only [List.length_append] at hm hb hN h0 h1 l2 l4 hs'
      obtain ⟨p1, p2, p3⟩ := List.pairwise_append.1 hL
      obtain ⟨p4, p5, p6⟩ := List.pairwise_append.1 hR
      have f2 : ∀ x ∈ L1, ∀ y ∈ R2, lt x y := fun x hx y hy => by
        obtain ⟨c, c0, c1, e⟩ := mem_rd P L1 (L2 ++ R1 ++ R2 ++ T) x hx
        obtain ⟨d, d0, d1, e'⟩ := mem_rd (P ++ L1 ++ L2 ++ R1) R2 T y hy
        simp only [List.length_append] at d0 d1
        have z := A c d (by omega) (by omega) (by omega) (by omega)
        rw [show P ++ (L1 ++ L2) ++ (R1 ++ R2) ++ T = P ++ L1 ++ (L2 ++ R1 ++ R2 ++ T) by simp, e, show P ++ L1 ++ (L2 ++ R1 ++ R2 ++ T) = P ++ L1 ++ L2 ++ R1 ++ R2 ++ T by simp, e'] at z
        exact z
      have f3 : ∀ x ∈ R1, ∀ y ∈ L2, lt x y := fun x hx y hy => by
        obtain ⟨c, c0, c1, e⟩ := mem_rd (P ++ L1 ++ L2) R1 (R2 ++ T) x hx
        obtain ⟨d, d0, d1, e'⟩ := mem_rd (P ++ L1) L2 (R1 ++ R2 ++ T) y hy
        simp only [List.length_append] at c0 c1 d0 d1
        have z := B c d (by omega) (by omega) (by omega) (by omega)
        rw [show P ++ (L1 ++ L2) ++ (R1 ++ R2) ++ T = P ++ L1 ++ L2 ++ R1 ++ (R2 ++ T) by simp, e, show P ++ L1 ++ L2 ++ R1 ++ (R2 ++ T) = P ++ L1 ++ L2 ++ (R1 ++ R2 ++ T) by simp, e'] at z
        exact z
      obtain ⟨M, q1, q2, q3⟩ := slices_symMergeCmpFunc_int__split_ranked_1.tail s lt P L1 R1 L2 R2 T a mid t (mid + m - t) b ha (by omega) (by omega) (by omega) (by omega) p1 p4 p2 p5 p3 f2 f3 p6
        (fun v0 v1 T' hT => slices_symMergeCmpFunc_int__split_ranked_1.merge s lt o N P L1 R1 T' a t mid (by omega) v0 v1 ha (by omega) (by omega) p1 p4 (fun x hx y hy => hc x (by simp [hx]) y (by simp [hy])) hT)
        (fun v0 v1 P' hP' hT => slices_symMergeCmpFunc_int__split_ranked_1.merge s lt o N P' L2 R2 T mid (mid + m - t) b (by omega) v0 v1 hP' (by omega) (by omega) p2 p5 (fun x hx y hy => hc x (by simp [hx]) y (by simp [hy])) hT)
        (by simp only [List.length_append]; omega)
      refine ⟨M, q1.trans ?_, q2, Ev.succ ?_⟩
      · simp only [List.append_assoc]
        refine List.Perm.append_left L1 ?_
        rw [← List.append_assoc, ← List.append_assoc]
        exact List.Perm.append_right R2 List.perm_append_comm
      · by_cases c : t < m ∧ m < mid + m - t
        · simp only [slices_symMergeCmpFunc_int__split_ranked_1.j6, decide_eq_true c, if_true]
          have z := slices_rotateCmpFunc_int__split_ranked_1.f_rot s (P ++ L1) L2 R1 (R2 ++ T) t m (mid + m - t) (by omega) (by omega) (by simp only [List.length_append]; omega) (by simp only [List.length_append]; omega) (by simp only [List.length_append]; omega) (by simp only [List.length_append]; omega)
          refine Ev.bind (a := P ++ L1 ++ R1 ++ L2 ++ R2 ++ T) ?_ q3
          simpa using z
        · simp only [slices_symMergeCmpFunc_int__split_ranked_1.j6, decide_eq_false c, Bool.false_eq_true, if_false]
          have z : L2 ++ R1 = R1 ++ L2 := by
            by_cases d : L2.length = 0
            · rw [List.eq_nil_of_length_eq_zero d]; simp
            · rw [List.eq_nil_of_length_eq_zero (show R1.length = 0 by omega)]; simp
          rw [show P ++ (L1 ++ L2) ++ (R1 ++ R2) ++ T = P ++ L1 ++ (L2 ++ R1) ++ R2 ++ T by simp, z]
          simpa using q3
    by_cases c3 : m > mid
    · obtain ⟨t, t1, t2, t3, t4, t5⟩ := slices_symMergeCmpFunc_int__split_ranked_1.search s lt o P L R T a m b mid (mid + m) (mid + m - b) mid ha hm hb hL hR hc hs rfl (by omega) (by omega) (by omega) (by omega) (by omega)
      obtain ⟨M, q1, q2, q3⟩ := fol t (mid + m - b) mid (by omega) t1 t2 (by omega) (by omega) (by omega) t3 t4 (by omega) (by omega)
      refine ⟨M, q1, q2, Ev.succ ?_⟩
      simp only [slices_symMergeCmpFunc_int__split_ranked_1.f, e1, e2, em, e3, e4, if_neg c1, if_neg c2, if_pos c3]
      refine Ev.succ ?_
      simp only [slices_symMergeCmpFunc_int__split_ranked_1.j4, e5]
      exact t5 _ q3
    · obtain ⟨t, t1, t2, t3, t4, t5⟩ := slices_symMergeCmpFunc_int__split_ranked_1.search s lt o P L R T a m b mid (mid + m) a m ha hm hb hL hR hc hs rfl (by omega) (by omega) (by omega) (by omega) (by omega)
      obtain ⟨M, q1, q2, q3⟩ := fol t a m (by omega) t1 t2 (by omega) (by omega) (by omega) t3 t4 (by omega) (by omega)
      refine ⟨M, q1, q2, Ev.succ ?_⟩
      simp only [slices_symMergeCmpFunc_int__split_ranked_1.f, e1, e2, em, e3, e4, if_neg c1, if_neg c2, if_neg c3]
      refine Ev.succ ?_
      simp only [slices_symMergeCmpFunc_int__split_ranked_1.j4, e5]
      exact t5 _ q3
/-- x is x0 block by block: each block a sorted permutation. -/
inductive slices_stableCmpFunc_int__split_ranked_1.Ch (lt : Int → Int → Prop) (bs : Nat) : List Int → List Int → Prop
  | last (x0 x : List Int) : x.length ≤ bs → x.Perm x0 → x.Pairwise lt → slices_stableCmpFunc_int__split_ranked_1.Ch lt bs x0 x
  | cons (b0 b y0 y : List Int) : b.length = bs → b.Perm b0 → b.Pairwise lt → slices_stableCmpFunc_int__split_ranked_1.Ch lt bs y0 y → slices_stableCmpFunc_int__split_ranked_1.Ch lt bs (b0 ++ y0) (b ++ y)
theorem slices_stableCmpFunc_int__split_ranked_1.Ch.perm {lt : Int → Int → Prop} {bs : Nat} {x0 x : List Int} (h : slices_stableCmpFunc_int__split_ranked_1.Ch lt bs x0 x) : x.Perm x0 := by
  induction h with
  | last _ _ _ p _ => exact p
  | cons _ _ _ _ _ p _ _ ih => exact p.append ih
theorem slices_stableCmpFunc_int__split_ranked_1.Ch.small {lt : Int → Int → Prop} {bs : Nat} {x0 x : List Int} (h : slices_stableCmpFunc_int__split_ranked_1.Ch lt bs x0 x) (hb : 0 < bs) (hx : x.length ≤ bs) : x.Pairwise lt := by
  cases h with
  | last _ _ _ _ q => exact q
  | cons b0 b y0 y l p q c =>
    have : y.length = 0 := by rw [List.length_append] at hx; omega
    rw [List.eq_nil_of_length_eq_zero this]
    simpa using q
theorem slices_stableCmpFunc_int__split_ranked_1.ins (s : List Int) (lt : Int → Int → Prop) (o : Tot lt) (bs : Nat) (hbs : 0 < bs) (hbs' : bs < 1000000) : ∀ (N : Nat) (P Y : List Int) (a n : Int), Y.length ≤ N → a = (P.length : Int) → n = a + Y.length → Y.Pairwise (Cm s lt) → (P ++ Y).length < 1000000 →
    ∃ Y', slices_stableCmpFunc_int__split_ranked_1.Ch lt bs Y Y' ∧ ∀ r, Ev (fun k => slices_stableCmpFunc_int__split_ranked_1.l1 k (P ++ Y') n bs s) r → Ev (fun k => slices_stableCmpFunc_int__split_ranked_1.l0 k (P ++ Y) n bs a (a + bs) s) r
  | N, P, Y, a, n, hN, ha, hn, hY, hs => by
    have hs' : P.length + Y.length < 1000000 := by simpa using hs
    by_cases c : a + bs ≤ n
    · obtain ⟨N, rfl⟩ : ∃ M, N = M + 1 := ⟨N - 1, by omega⟩
      obtain ⟨Y1, Y2, rfl, l1, l2⟩ := split_at Y bs (by omega)
      simp only [List.length_append] at hn hN hs'
      obtain ⟨p1, p2, p3⟩ := List.pairwise_append.1 hY
      obtain ⟨M, q1, q2, q3⟩ := slices_insertionSortCmpFunc_int__split_ranked_1.f_sort s lt o a (a + bs) P Y1 Y2 ha (by omega) p1 (by simp only [List.length_append]; omega)
      have hM : M.length = bs := by rw [q1.length_eq]; exact l1
      obtain ⟨Y', r1, r2⟩ := slices_stableCmpFunc_int__split_ranked_1.ins s lt o bs hbs hbs' N (P ++ M) Y2 (a + bs) n (by omega) (by rw [List.length_append]; omega) (by omega) p2 (by simp only [List.length_append]; omega)
      refine ⟨M ++ Y', .cons _ _ _ _ hM q1 q2 r1, fun r h => Ev.succ ?_⟩
      have e1 : wrap64 (a + bs + bs) = a + bs + bs := w64 (by omega) (by omega)
      simp only [slices_stableCmpFunc_int__split_ranked_1.l0, if_pos c, e1]
      refine Ev.bind (a := P ++ M ++ Y2) (by simpa using q3) ?_
      exact r2 r (by simpa using h)
    · obtain ⟨M, q1, q2, q3⟩ := slices_insertionSortCmpFunc_int__split_ranked_1.f_sort s lt o a n P Y [] ha hn hY (by simpa using hs)
      have hM : M.length = Y.length := q1.length_eq
      refine ⟨M, .last _ _ (by omega) q1 q2, fun r h => Ev.succ ?_⟩
      simp only [slices_stableCmpFunc_int__split_ranked_1.l0, if_neg c]
      refine Ev.bind (a := P ++ M) (by simpa using q3) h
theorem slices_stableCmpFunc_int__split_ranked_1.mrg (s : List Int) (lt : Int → Int → Prop) (o : Tot lt) (bs : Nat) (hbs : 0 < bs) (hbs' : bs < 1000000) : ∀ (N : Nat) (P Y0 Y : List Int) (a n : Int), Y.length ≤ N → slices_stableCmpFunc_int__split_ranked_1.Ch lt bs Y0 Y → a = (P.length : Int) → n = a + Y.length → Y0.Pairwise (Cm s lt) → (P ++ Y).length < 1000000 →
    ∃ Y', slices_stableCmpFunc_int__split_ranked_1.Ch lt (2 * bs) Y0 Y' ∧ ∀ r, Ev (fun k => slices_stableCmpFunc_int__split_ranked_1.l1 k (P ++ Y') n ((2 * bs : Nat) : Int) s) r → Ev (fun k => slices_stableCmpFunc_int__split_ranked_1.l2 k (P ++ Y) n bs a (a + 2 * bs) s) r := by
  intro N
  induction N with
  | zero =>
    intro P Y0 Y a n hN hC ha hn hY hs
    obtain rfl : Y = [] := List.eq_nil_of_length_eq_zero (by omega)
    refine ⟨[], .last _ _ (by simp) hC.perm List.Pairwise.nil, fun r h => Ev.succ ?_⟩
    have g : ¬ a + 2 * bs ≤ n := by simp at hn; omega
    have e1 : wrap64 (a + bs) = a + bs := w64 (by simp at hs; omega) (by simp at hs; omega)
    have g2 : ¬ a + bs < n := by simp at hn; omega
    have e2 : wrap64 ((bs : Int) * 2) = ((2 * bs : Nat) : Int) := by rw [w64 (by omega) (by omega)]; omega
    simp only [slices_stableCmpFunc_int__split_ranked_1.l2, if_neg g, e1, if_neg g2, e2]
    exact h
  | succ N ih =>
    intro P Y0 Y a n hN hC ha hn hY hs
    have hs' : P.length + Y.length < 1000000 := by simpa using hs
    have e1 : wrap64 (a + bs) = a + bs := w64 (by omega) (by omega)
    have e2 : wrap64 ((bs : Int) * 2) = ((2 * bs : Nat) : Int) := by rw [w64 (by omega) (by omega)]; omega
    have e3 : wrap64 (2 * (bs : Int)) = 2 * bs := w64 (by omega) (by omega)
    have e4 : wrap64 (a + 2 * bs + 2 * bs) = a + 2 * bs + 2 * bs := w64 (by omega) (by omega)
    cases hC with
    | last _ _ hl hp hq =>
      refine ⟨Y, .last _ _ (by omega) hp hq, fun r h => Ev.succ ?_⟩
      have g : ¬ a + 2 * bs ≤ n := by omega
      have g2 : ¬ a + bs < n := by omega
      simp only [slices_stableCmpFunc_int__split_ranked_1.l2, if_neg g, e1, if_neg g2, e2]
      exact h
    | cons b0 b1 y0 y hl hp hq hC' =>
      rw [List.length_append] at hn hN hs'
      obtain ⟨p1, p2, p3⟩ := List.pairwise_append.1 hY
      cases hC' with
      | last _ _ hl2 hp2 hq2 =>
        by_cases c0 : y.length = 0
        · obtain rfl : y = [] := List.eq_nil_of_length_eq_zero c0
          refine ⟨b1 ++ [], .last _ _ (by simp; omega) (hp.append hp2) (by simpa using hq), fun r h => Ev.succ ?_⟩
          have g : ¬ a + 2 * bs ≤ n := by simp at hn; omega
          have g2 : ¬ a + bs < n := by simp at hn; omega
          simp only [slices_stableCmpFunc_int__split_ranked_1.l2, if_neg g, e1, if_neg g2, e2]
          exact h
        · obtain ⟨M, q1, q2, q3⟩ := slices_symMergeCmpFunc_int__split_ranked_1.merge s lt o (b1.length + y.length) P b1 y [] a (a + bs) n (Nat.le_refl _) (by omega) (by omega) ha (by omega) (by omega) hq hq2 (fun x hx z hz => p3 x (hp.mem_iff.1 hx) z (hp2.mem_iff.1 hz)) (by simp only [List.length_append, List.length_nil]; omega)
          have hM : M.length = b1.length + y.length := by rw [q1.length_eq, List.length_append]
          simp only [List.append_nil] at q3
          refine ⟨M, .last _ _ (by omega) (q1.trans (hp.append hp2)) q2, fun r h => Ev.succ ?_⟩
          by_cases c1 : y.length = bs
          · have g : a + 2 * bs ≤ n := by omega
            have en : n = a + 2 * bs := by omega
            simp only [slices_stableCmpFunc_int__split_ranked_1.l2, if_pos g, e1, e3, e4]
            refine Ev.bind (a := P ++ M) ?_ (Ev.succ ?_)
            · rw [← en]; simpa using q3
            · have g3 : ¬ a + 2 * bs + 2 * bs ≤ n := by omega
              have e5 : wrap64 (a + 2 * bs + bs) = a + 2 * bs + bs := w64 (by omega) (by omega)
              have g4 : ¬ a + 2 * bs + bs < n := by omega
              simp only [slices_stableCmpFunc_int__split_ranked_1.l2, if_neg g3, e5, if_neg g4, e2]
              exact h
          · have g : ¬ a + 2 * bs ≤ n := by omega
            have g2 : a + bs < n := by omega
            simp only [slices_stableCmpFunc_int__split_ranked_1.l2, if_neg g, e1, if_pos g2, e2]
            exact Ev.bind (a := P ++ M) (by simpa using q3) h
      | cons b0' b2 z0 z hl2 hp2 hq2 hC2 =>
        rw [List.length_append] at hn hN hs'
        obtain ⟨p4, p5, p6⟩ := List.pairwise_append.1 p2
        obtain ⟨M, q1, q2, q3⟩ := slices_symMergeCmpFunc_int__split_ranked_1.merge s lt o (b1.length + b2.length) P b1 b2 z a (a + bs) (a + 2 * bs) (Nat.le_refl _) (by omega) (by omega) ha (by omega) (by omega) hq hq2 (fun x hx w hw => p3 x (hp.mem_iff.1 hx) w (List.mem_append_left _ (hp2.mem_iff.1 hw))) (by simp only [List.length_append]; omega)
        have hM : M.length = 2 * bs := by rw [q1.length_eq, List.length_append]; omega
        obtain ⟨Y', r1, r2⟩ := ih (P ++ M) z0 z (a + 2 * bs) n (by omega) hC2 (by rw [List.length_append]; omega) (by omega) p5 (by simp only [List.length_append]; omega)
        refine ⟨M ++ Y', ?_, fun r h => Ev.succ ?_⟩
        · rw [← List.append_assoc]
          exact .cons _ _ _ _ hM (q1.trans (hp.append hp2)) q2 r1
        · have g : a + 2 * bs ≤ n := by omega
          simp only [slices_stableCmpFunc_int__split_ranked_1.l2, if_pos g, e1, e3, e4]
          refine Ev.bind (a := P ++ M ++ z) (by simpa using q3) ?_
          exact r2 r (by simpa using h)
theorem slices_stableCmpFunc_int__split_ranked_1.all (s : List Int) (lt : Int → Int → Prop) (o : Tot lt) (X0 : List Int) (hX : X0.Pairwise (Cm s lt)) : ∀ (N bs : Nat) (X : List Int) (n : Int), n.toNat - bs ≤ N → 0 < bs → bs < 1000000 → slices_stableCmpFunc_int__split_ranked_1.Ch lt bs X0 X → n = X.length → X.length < 400000 →
    ∃ Z, Z.Perm X0 ∧ Z.Pairwise lt ∧ Ev (fun k => slices_stableCmpFunc_int__split_ranked_1.l1 k X n bs s) Z
  | N, bs, X, n, hN, hb, hb', hC, hn, hs => by
    by_cases c : (bs : Int) < n
    · obtain ⟨N, rfl⟩ : ∃ M, N = M + 1 := ⟨N - 1, by omega⟩
      obtain ⟨Y', r1, r2⟩ := slices_stableCmpFunc_int__split_ranked_1.mrg s lt o bs hb hb' X.length [] X0 X 0 n (Nat.le_refl _) hC rfl (by omega) hX (by simp; omega)
      have hl : Y'.length = X.length := by rw [r1.perm.length_eq, hC.perm.length_eq]
      obtain ⟨Z, z1, z2, z3⟩ := slices_stableCmpFunc_int__split_ranked_1.all s lt o X0 hX N (2 * bs) Y' n (by omega) (by omega) (by omega) r1 (by omega) (by omega)
      refine ⟨Z, z1, z2, Ev.succ ?_⟩
      have e3 : wrap64 (2 * (bs : Int)) = 2 * bs := w64 (by omega) (by omega)
      simp only [slices_stableCmpFunc_int__split_ranked_1.l1, if_pos c, e3]
      have z := r2 Z (by simpa using z3)
      simpa using z
    · refine ⟨X, hC.perm, hC.small hb (by omega), Ev.succ ?_⟩
      simp only [slices_stableCmpFunc_int__split_ranked_1.l1, if_neg c]
      exact Ev.const _
/-- THE STABLE SORT: a sorted permutation, if a comparison of a later element with an earlier one is the order's. -/
theorem slices_stableCmpFunc_int__split_ranked_1.f_sort (s : List Int) (lt : Int → Int → Prop) (o : Tot lt) (X : List Int) (hX : X.Pairwise (Cm s lt)) (n : Int) (hn : n = X.length) (hs : X.length < 400000) :
    ∃ Z, Z.Perm X ∧ Z.Pairwise lt ∧ Ev (fun k => slices_stableCmpFunc_int__split_ranked_1.f k X n s) Z := by
  obtain ⟨Y', r1, r2⟩ := slices_stableCmpFunc_int__split_ranked_1.ins s lt o 20 (by omega) (by omega) X.length [] X 0 n (Nat.le_refl _) rfl (by omega) hX (by simp; omega)
  have hl : Y'.length = X.length := r1.perm.length_eq
  obtain ⟨Z, z1, z2, z3⟩ := slices_stableCmpFunc_int__split_ranked_1.all s lt o X hX _ 20 Y' n (Nat.le_refl _) (by omega) (by omega) r1 (by omega) (by omega)
  refine ⟨Z, z1, z2, ?_⟩
  have := r2 Z (by simpa using z3)
  simpa [slices_stableCmpFunc_int__split_ranked_1.f] using this
end Go.Proofs.Ytikglhfeookhaaa.M
end
section
/- muldiv and its specification: both come to one closed form, for all whole numbers of 64 bits. -/
namespace Go.Proofs.Ytikglhfeookhaaa.M
open Go.RowKit Go.Proofs.YtikglhfeookhaaaW.PrintWords Dv
set_option linter.unusedVariables false
set_option linter.unusedSimpArgs false
theorem muldiv_magnitude.eq {a : Int} (h : inI a) : muldiv_magnitude.f a = some (ab a) := by
  unfold inI at h
  unfold muldiv_magnitude.f ab
  simp only [wrap_u64]
  split
  · congr 1; omega
  · congr 1; omega
theorem muldiv_multiply.eq {x y : Int} (h0 : 0 ≤ x) (h1 : x < 18446744073709551616) (h2 : 0 ≤ y) (h3 : y < 18446744073709551616) : muldiv_multiply.f x y = some (x * y / 18446744073709551616, x * y % 18446744073709551616) := by
  obtain ⟨e1, e2⟩ := mul_words x y h0 h1 h2 h3
  rw [← e1, ← e2]
  rfl
theorem muldiv_divide.eq {P c : Int} (h0 : 0 ≤ P) (h1 : P < 18446744073709551616 * 18446744073709551616) (hc : 0 < c) (hc1 : c < 18446744073709551616) : muldiv_divide.f (P / 18446744073709551616) (P % 18446744073709551616) c = some (qh (P / 18446744073709551616) c, ql (P / 18446744073709551616) (P % 18446744073709551616) c, P % c) := by
  unfold muldiv_divide.f
  rw [if_pos ⟨hc, hc1, by omega, by omega, by omega, by omega⟩, (div_words P c h0 hc).2]
theorem muldiv_signed.eq {neg : Bool} {z : Int} (h0 : 0 ≤ z) (h1 : z < 18446744073709551616) : muldiv_signed.f neg z = some (signv neg z) := by
  unfold muldiv_signed.f signv
  cases neg with
  | true =>
    simp only [if_true]
    split
    · rfl
    · congr 2
      rw [wrap_u64]
      unfold wrap64
      omega
  | false =>
    simp only [Bool.false_eq_true, if_false]
    split
    · rfl
    · congr 2
      unfold wrap64
      omega
theorem muldiv_away.eq {mode : Int} {neg : Bool} {q r c : Int} (hq : 0 ≤ q) (hm : 1 ≤ mode ∧ mode ≤ 5) (h0 : 0 ≤ r) (h1 : r < c) (h2 : c < 18446744073709551616) : muldiv_away.f mode neg ((Int.tmod q 2) == 1) r c = some (awayv mode neg q r c) := by
  have e : IntKind.u64.wrap (c - r) = c - r := u64w (by omega) (by omega)
  have e2 : Int.tmod q 2 = q % 2 := Int.tmod_eq_emod_of_nonneg hq
  unfold muldiv_away.f awayv
  rw [e, e2]
  have hmm : mode = 1 ∨ mode = 2 ∨ mode = 3 ∨ mode = 4 ∨ mode = 5 := by omega
  by_cases hr : r = 0
  · simp [hr]
  · rcases hmm with rfl | rfl | rfl | rfl | rfl <;> simp [hr]
    by_cases h3 : r > c - r
    · have h4 : c - r < r := h3
      simp [h3, h4]
    · have h4 : ¬ c - r < r := h3
      by_cases h5 : r = c - r
      · rw [if_neg h3, if_pos h5]
        simp [h4, ← h5]
        by_cases h6 : q % 2 = 1 <;> simp [h6]
      · simp [h3, h4, h5]
theorem negv_pos {a b c : Int} (h : negv a b c = true) : a * b ≠ 0 := by
  unfold negv at h
  simp at h
  intro k
  rcases Int.mul_eq_zero.1 k with z | z <;> simp [z] at h
theorem signv_big {neg : Bool} {z : Int} (h : 18446744073709551616 ≤ z) : signv neg z = (0, 4) := by
  unfold signv
  cases neg
  · simp; omega
  · simp; omega
theorem negv_eq {a b c : Int} : negv a b c = if (decide (ab a * ab b = 0)) = true then false else (((decide (a < 0)) != (decide (b < 0))) != (decide (c < 0))) := by
  unfold negv
  have e : (ab a * ab b = 0) ↔ (a * b = 0) := by
    rw [Int.mul_eq_zero, Int.mul_eq_zero, ab_zero, ab_zero]
  by_cases h : a * b = 0
  · simp [e, h]
  · simp [e, h]
theorem muldiv_MulDiv.eq {a b c : Int} (mode : Int) (ha : inI a) (hb : inI b) (hc : inI c) : Ev (fun k => muldiv_MulDiv.f k a b c mode) (mdv a b c mode) := by
  unfold mdv
  by_cases hm : mode < 1 ∨ mode > 5
  · rw [if_pos hm]
    have j : Ev (fun k => muldiv_MulDiv.j0 k a b c mode true) (0, 10) := by
      refine Ev.succ ?_
      simp only [muldiv_MulDiv.j0, if_true]
      exact Ev.const _
    by_cases h1 : mode < 1
    · simp only [muldiv_MulDiv.f, if_pos h1]; exact j
    · have h2 : mode > 5 := by omega
      simp only [muldiv_MulDiv.f, if_neg h1, decide_eq_true h2]; exact j
  rw [if_neg hm]
  have h1 : ¬ mode < 1 := by omega
  have h2 : ¬ mode > 5 := by omega
  simp only [muldiv_MulDiv.f, if_neg h1, decide_eq_false h2]
  refine Ev.succ ?_
  simp only [muldiv_MulDiv.j0, Bool.false_eq_true, if_false]
  by_cases h3 : c = 0
  · simp only [if_pos h3]; exact Ev.const _
  have ba := ab_bound ha; have bb := ab_bound hb; have bc := ab_bound hc; have pc := ab_pos h3
  have bp := prod_ab ha hb
  simp only [if_neg h3, muldiv_magnitude.eq ha, muldiv_magnitude.eq hb, Option.bind_some, muldiv_multiply.eq ba.1 (show ab a < 18446744073709551616 by omega) bb.1 (show ab b < 18446744073709551616 by omega)]
  -- the second part, for any sign
  have J : ∀ neg, Ev (fun k => muldiv_MulDiv.j1 k c mode neg (ab a * ab b / 18446744073709551616) (ab a * ab b % 18446744073709551616)) (signv neg (ab a * ab b / ab c + if awayv mode neg (ab a * ab b / ab c) (ab a * ab b % ab c) (ab c) = true then 1 else 0)) := by
    intro neg
    refine Ev.succ ?_
    simp only [muldiv_MulDiv.j1, muldiv_magnitude.eq hc, Option.bind_some, muldiv_divide.eq bp.1 bp.2 pc (show ab c < 18446744073709551616 by omega)]
    have dw := (div_words (ab a * ab b) (ab c) bp.1 pc).1
    have q0 : 0 ≤ ab a * ab b / ab c := Int.ediv_nonneg bp.1 (by omega)
    have r0 : 0 ≤ ab a * ab b % ab c := Int.emod_nonneg _ (by omega)
    have r1 : ab a * ab b % ab c < ab c := Int.emod_lt_of_pos _ pc
    have qz := qh_zero (ab a * ab b) (ab c) bp.1 pc
    have aw := muldiv_away.eq (mode := mode) (neg := neg) q0 (by omega) r0 r1 (show ab c < 18446744073709551616 by omega)
    by_cases hz : qh (ab a * ab b / 18446744073709551616) (ab c) = 0
    · have hq := qz.1 hz
      rw [hz, Int.zero_mul, Int.zero_add] at dw
      rw [dw]
      simp only [if_pos hz, aw, Option.bind_some]
      by_cases haw : awayv mode neg (ab a * ab b / ab c) (ab a * ab b % ab c) (ab c) = true
      · simp only [if_pos haw]
        by_cases hw : ab a * ab b / ab c + 1 = 18446744073709551616
        · have e : IntKind.u64.wrap (ab a * ab b / ab c + 1) = 0 := by rw [wrap_u64, hw]; rfl
          rw [signv_big (by omega)]
          simp only [e, if_true]
          exact Ev.const _
        · have e : IntKind.u64.wrap (ab a * ab b / ab c + 1) = ab a * ab b / ab c + 1 := u64w (by omega) (by omega)
          have e2 : ¬ ab a * ab b / ab c + 1 = 0 := by omega
          simp only [e, if_neg e2, muldiv_signed.eq (neg := neg) (z := ab a * ab b / ab c + 1) (by omega) (by omega), Option.bind_some]
          exact Ev.const _
      · simp only [if_neg haw, Int.add_zero, muldiv_signed.eq (neg := neg) (z := ab a * ab b / ab c) q0 hq, Option.bind_some]
        exact Ev.const _
    · have hq : ¬ ab a * ab b / ab c < 18446744073709551616 := fun k => hz (qz.2 k)
      rw [signv_big (by split <;> omega)]
      simp only [if_neg hz]
      exact Ev.const _
  unfold sizev
  rw [negv_eq]
  have hne : (!(ab a * ab b / 18446744073709551616 == 0) || (!(ab a * ab b % 18446744073709551616 == 0))) = !(decide (ab a * ab b = 0)) := by
    by_cases hp : ab a * ab b = 0
    · simp [hp]
    · by_cases hx : ab a * ab b / 18446744073709551616 = 0
      · have hy : ¬ ab a * ab b % 18446744073709551616 = 0 := by omega
        simp [hp, hx, hy]
      · simp [hp, hx]
  simp only [hne]
  by_cases hp : ab a * ab b = 0
  · simp only [hp, decide_true, Bool.not_true, Bool.false_eq_true, if_false, if_true]
    have := J false
    simpa only [hp] using this
  · simp only [hp, decide_false, Bool.not_false, Bool.false_eq_true, if_false, if_true]
    exact J _
theorem muldiv_Mod.eq {a b c : Int} (ha : inI a) (hb : inI b) (hc : inI c) : muldiv_Mod.f a b c = some (modv a b c) := by
  unfold modv muldiv_Mod.f
  by_cases h3 : c = 0
  · simp only [if_pos h3]
  have ba := ab_bound ha; have bb := ab_bound hb; have bc := ab_bound hc; have pc := ab_pos h3
  have bp := prod_ab ha hb
  simp only [if_neg h3, muldiv_magnitude.eq ha, muldiv_magnitude.eq hb, muldiv_magnitude.eq hc, Option.bind_some, muldiv_multiply.eq ba.1 (show ab a < 18446744073709551616 by omega) bb.1 (show ab b < 18446744073709551616 by omega), muldiv_divide.eq bp.1 bp.2 pc (show ab c < 18446744073709551616 by omega)]
  have r0 : 0 ≤ ab a * ab b % ab c := Int.emod_nonneg _ (by omega)
  have r1 : ab a * ab b % ab c < ab c := Int.emod_lt_of_pos _ pc
  have sg : a * b = if ((decide (a < 0)) != (decide (b < 0))) = true then -(ab a * ab b) else ab a * ab b := by
    unfold ab
    by_cases x : a < 0 <;> by_cases y : b < 0 <;> simp [x, y, Int.neg_mul, Int.mul_neg]
  have e1 : ∀ z : Int, 0 ≤ z → z < ab c → wrap64 z = z := fun z z0 z1 => w64 (by omega) (by omega)
  rw [sg]
  by_cases hz : ab a * ab b % ab c = 0
  · simp only [if_pos hz]
    congr 2
    rw [hz]
    split
    · rw [Int.emod_eq_zero_of_dvd (Int.dvd_neg.2 (Int.dvd_of_emod_eq_zero hz))]; exact w64 (by omega) (by omega)
    · rw [hz]; exact w64 (by omega) (by omega)
  · simp only [if_neg hz]
    by_cases n : ((decide (a < 0)) != (decide (b < 0))) = true
    · simp only [if_pos n]
      rw [u64w (n := ab c - ab a * ab b % ab c) (by omega) (by omega), e1 (ab c - ab a * ab b % ab c) (by omega) (by omega)]
      congr 2
      have h := Int.emod_add_mul_ediv (ab a * ab b) (ab c)
      have : -(ab a * ab b) = (ab c - ab a * ab b % ab c) + ab c * (-(ab a * ab b / ab c) - 1) := by
        rw [Int.mul_sub, Int.mul_neg]; omega
      rw [this, Int.add_mul_emod_self_left]
      exact (Int.emod_eq_of_lt (by omega) (by omega)).symm
    · simp only [if_neg n]
      rw [e1 _ r0 r1]
end Go.Proofs.Ytikglhfeookhaaa.M
end
section
/- The specification of muldiv comes to the same closed form, for all whole numbers of 64 bits. -/
namespace Go.Proofs.Ytikglhfeookhaaa.M
open Go.RowKit Go.Proofs.YtikglhfeookhaaaW.PrintWords Dv
set_option linter.unusedVariables false
set_option linter.unusedSimpArgs false
theorem accountingref02_mag.eq {a : Int} (h : inI a) : accountingref02_mag.f a = some (ab a) := by
  unfold inI at h
  unfold accountingref02_mag.f ab
  simp only [wrap_u64]
  split
  · congr 1; unfold wrap64; omega
  · congr 1; omega
theorem accountingref02_wide.eq {x y : Int} (h0 : 0 ≤ x) (h1 : x < 18446744073709551616) (h2 : 0 ≤ y) (h3 : y < 18446744073709551616) : accountingref02_wide.f x y = some (x * y / 18446744073709551616, x * y % 18446744073709551616) := by
  have e : x * y = (x / 4294967296) * (y / 4294967296) * 18446744073709551616 + ((x / 4294967296) * (y % 4294967296) + (x % 4294967296) * (y / 4294967296)) * 4294967296 + (x % 4294967296) * (y % 4294967296) := by
    have h1 : x = x / 4294967296 * 4294967296 + x % 4294967296 := by omega
    have h2 : y = y / 4294967296 * 4294967296 + y % 4294967296 := by omega
    generalize x / 4294967296 = p at *
    generalize y / 4294967296 = u at *
    generalize x % 4294967296 = q at *
    generalize y % 4294967296 = v at *
    subst h1 h2
    rw [Int.add_mul, Int.mul_add, Int.mul_add]
    have e1 : p * 4294967296 * (u * 4294967296) = p * u * 18446744073709551616 := by rw [Int.mul_assoc p, Int.mul_left_comm 4294967296 u, ← Int.mul_assoc p]; rfl
    have e2 : p * 4294967296 * v = p * v * 4294967296 := Int.mul_right_comm _ _ _
    have e3 : q * (u * 4294967296) = q * u * 4294967296 := (Int.mul_assoc _ _ _).symm
    rw [e1, e2, e3]; omega
  have p1 := prod_le (x / 4294967296) (y / 4294967296) (by omega) (by omega) (by omega) (by omega)
  have p2 := prod_le (x / 4294967296) (y % 4294967296) (by omega) (by omega) (by omega) (by omega)
  have p3 := prod_le (x % 4294967296) (y / 4294967296) (by omega) (by omega) (by omega) (by omega)
  have p4 := prod_le (x % 4294967296) (y % 4294967296) (by omega) (by omega) (by omega) (by omega)
  have td : ∀ z : Int, 0 ≤ z → Int.tdiv z 4294967296 = z / 4294967296 := fun z hz => Int.tdiv_eq_ediv_of_nonneg hz
  have tm : ∀ z : Int, 0 ≤ z → Int.tmod z 4294967296 = z % 4294967296 := fun z hz => Int.tmod_eq_emod_of_nonneg hz
  have uw : ∀ z : Int, 0 ≤ z → z < 18446744073709551616 → IntKind.u64.wrap z = z := fun z a b => u64w a b
  unfold accountingref02_wide.f
  rw [td x h0, td y h2, tm x h0, tm y h2, e]
  rw [uw (x / 4294967296) (by omega) (by omega), uw (y / 4294967296) (by omega) (by omega)]
  generalize x / 4294967296 = a1 at *
  generalize y / 4294967296 = b1 at *
  generalize x % 4294967296 = a0 at *
  generalize y % 4294967296 = b0 at *
  clear e
  rw [uw (a1 * b1) (by omega) (by omega), uw (a1 * b0) (by omega) (by omega), uw (a0 * b1) (by omega) (by omega), uw (a0 * b0) (by omega) (by omega)]
  generalize a1 * b1 = P1 at *
  generalize a1 * b0 = P2 at *
  generalize a0 * b1 = P3 at *
  generalize a0 * b0 = P4 at *
  rw [td P4 (by omega), tm P4 (by omega), uw (P4 / 4294967296) (by omega) (by omega), uw (P2 + P4 / 4294967296) (by omega) (by omega)]
  obtain ⟨M, hM⟩ : ∃ M, M = P2 + P4 / 4294967296 := ⟨_, rfl⟩
  rw [← hM, td M (by omega), tm M (by omega), uw (M / 4294967296) (by omega) (by omega), uw (P1 + M / 4294967296) (by omega) (by omega), uw (P3 + M % 4294967296) (by omega) (by omega)]
  obtain ⟨O, hO⟩ : ∃ O, O = P3 + M % 4294967296 := ⟨_, rfl⟩
  rw [← hO, td O (by omega), tm O (by omega), uw (O / 4294967296) (by omega) (by omega), uw (O % 4294967296 * 4294967296) (by omega) (by omega), uw (P1 + M / 4294967296 + O / 4294967296) (by omega) (by omega), uw (O % 4294967296 * 4294967296 + P4 % 4294967296) (by omega) (by omega)]
  congr 2
  · omega
  · omega
theorem accountingref02_divide.next (i : Nat) (h : i ≤ 127) : wrap64 ((i : Int) + 1) = ((i + 1 : Nat) : Int) := by rw [w64 (by omega) (by omega)]; omega
/-- What stands at the head of the division's loop: 'W' is the dividend, doubled i times. -/
theorem accountingref02_divide.go (P c : Int) (h0 : 0 ≤ P) (h1 : P < 340282366920938463463374607431768211456) (hc : 0 < c) (hc1 : c < 18446744073709551616) : ∀ (g i : Nat) (x0 x1 q0 q1 r : Int), i + g = 128 → 0 ≤ x0 → x0 < 18446744073709551616 → 0 ≤ x1 → x1 < 18446744073709551616 → 0 ≤ q0 → q0 < 18446744073709551616 → 0 ≤ q1 → q1 < 18446744073709551616 → 0 ≤ r → r < c →
    2 ^ i * P = 340282366920938463463374607431768211456 * (c * (q0 * 18446744073709551616 + q1) + r) + (x0 * 18446744073709551616 + x1) → q0 * 18446744073709551616 + q1 < 2 ^ i →
    Ev (fun k => accountingref02_divide.l0 k x0 x1 c q0 q1 r i) (P / c / 18446744073709551616, P / c % 18446744073709551616, P % c)
  | 0, i, x0, x1, q0, q1, r, hi, a0, a1, b0, b1, u0, u1, v0, v1, r0, r1, hW, hQ => by
    obtain rfl : i = 128 := by omega
    refine Ev.succ ?_
    have g : ¬ ((128 : Nat) : Int) < 128 := by omega
    simp only [accountingref02_divide.l0, if_neg g]
    have e : (2 : Int) ^ 128 = 340282366920938463463374607431768211456 := by decide
    rw [e] at hW hQ
    generalize hE : c * (q0 * 18446744073709551616 + q1) = E at hW
    have hP : P = r + c * (q0 * 18446744073709551616 + q1) := by rw [hE]; omega
    have d1 : P / c = q0 * 18446744073709551616 + q1 := by
      rw [hP, Int.add_mul_ediv_left _ _ (by omega), Int.ediv_eq_zero_of_lt r0 r1]; omega
    have d2 : P % c = r := by
      rw [hP, Int.add_mul_emod_self_left, Int.emod_eq_of_lt r0 r1]
    rw [d1, d2, show (q0 * 18446744073709551616 + q1) / 18446744073709551616 = q0 by omega, show (q0 * 18446744073709551616 + q1) % 18446744073709551616 = q1 by omega]
    exact Ev.const _
  | g + 1, i, x0, x1, q0, q1, r, hi, a0, a1, b0, b1, u0, u1, v0, v1, r0, r1, hW, hQ => by
    have hi' : i ≤ 127 := by omega
    have hp : (2 : Int) ^ i ≤ 2 ^ 127 := by
      have : (2 : Nat) ^ i ≤ 2 ^ 127 := Nat.pow_le_pow_right (by decide) hi'
      exact_mod_cast this
    have e127 : (2 : Int) ^ 127 = 170141183460469231731687303715884105728 := by decide
    rw [e127] at hp
    have hpow : (2 : Int) ^ (i + 1) = 2 * 2 ^ i := by rw [Int.pow_succ]; exact Int.mul_comm _ _
    have hW2 : (2 : Int) ^ (i + 1) * P = 2 * (2 ^ i * P) := by rw [hpow, Int.mul_assoc]
    generalize (2 : Int) ^ i * P = W at hW hW2
    generalize (2 : Int) ^ i = B at hQ hp hpow
    clear e127
    have td : ∀ z : Int, 0 ≤ z → Int.tdiv z 9223372036854775808 = z / 9223372036854775808 := fun z hz => Int.tdiv_eq_ediv_of_nonneg hz
    have uw : ∀ z : Int, 0 ≤ z → z < 18446744073709551616 → IntKind.u64.wrap z = z := fun z a b => u64w a b
    have em : ∀ z : Int, IntKind.u64.wrap z = z % 18446744073709551616 := wrap_u64
    have d0 := td x0 a0; have d1 := td x1 b0; have d2 := td q1 v0
    have n0 : IntKind.u64.wrap (IntKind.u64.wrap (2 * x0) + IntKind.u64.wrap (x1 / 9223372036854775808)) = (2 * x0) % 18446744073709551616 + x1 / 9223372036854775808 := by
      rw [em, em, em]; omega
    have n1 : IntKind.u64.wrap (2 * x1) = (2 * x1) % 18446744073709551616 := em _
    have n2 : IntKind.u64.wrap (IntKind.u64.wrap (2 * q0) + IntKind.u64.wrap (q1 / 9223372036854775808)) = 2 * q0 + q1 / 9223372036854775808 := by
      rw [em, em, em]; omega
    have n3 : IntKind.u64.wrap (2 * q1) = (2 * q1) % 18446744073709551616 := em _
    have n4 : IntKind.u64.wrap (IntKind.u64.wrap (2 * q1) + 1) = (2 * q1) % 18446744073709551616 + 1 := by rw [em, em]; omega
    have n5 : IntKind.u64.wrap (IntKind.u64.wrap (2 * r) + IntKind.u64.wrap (x0 / 9223372036854775808)) = (2 * r) % 18446744073709551616 + x0 / 9223372036854775808 := by
      rw [em, em, em]; omega
    have n6 : wrap64 ((i : Int) + 1) = ((i + 1 : Nat) : Int) := accountingref02_divide.next i hi'
    have gi : (i : Int) < 128 := Int.lt_of_le_of_lt (Int.ofNat_le.2 hi') (by decide)
    have hE : c * (q0 * 18446744073709551616 + q1) + c * (q0 * 18446744073709551616 + q1) = c * (2 * (q0 * 18446744073709551616 + q1)) := by rw [← Int.mul_add]; congr 1; omega
    have hE1 : c * (2 * (q0 * 18446744073709551616 + q1) + 1) = c * (2 * (q0 * 18446744073709551616 + q1)) + c := by rw [Int.mul_add, Int.mul_one]
    have f1 : (2 * q0 + q1 / 9223372036854775808) * 18446744073709551616 + (2 * q1) % 18446744073709551616 = 2 * (q0 * 18446744073709551616 + q1) := by omega
    have f2 : (2 * q0 + q1 / 9223372036854775808) * 18446744073709551616 + ((2 * q1) % 18446744073709551616 + 1) = 2 * (q0 * 18446744073709551616 + q1) + 1 := by omega
    have f3 : 2 * (x0 * 18446744073709551616 + x1) = 340282366920938463463374607431768211456 * (x0 / 9223372036854775808) + (((2 * x0) % 18446744073709551616 + x1 / 9223372036854775808) * 18446744073709551616 + (2 * x1) % 18446744073709551616) := by omega
    -- with a subtraction
    have S : ∀ r' : Int, r' = 2 * r + x0 / 9223372036854775808 - c → 0 ≤ r' → r' < c → Ev (fun k => accountingref02_divide.l0 k ((2 * x0) % 18446744073709551616 + x1 / 9223372036854775808) ((2 * x1) % 18446744073709551616) c (2 * q0 + q1 / 9223372036854775808) ((2 * q1) % 18446744073709551616 + 1) r' ((i + 1 : Nat) : Int)) (P / c / 18446744073709551616, P / c % 18446744073709551616, P % c) := by
      intro r' hr q2 q3
      refine accountingref02_divide.go P c h0 h1 hc hc1 g (i + 1) _ _ _ _ r' (by omega) (by omega) (by omega) (by omega) (by omega) (by omega) (by omega) (by omega) (by omega) q2 q3 ?_ ?_
      · rw [f2, hE1, hW2, hW]
        generalize c * (q0 * 18446744073709551616 + q1) = E at *
        generalize c * (2 * (q0 * 18446744073709551616 + q1)) = E2 at *
        omega
      · rw [f2, hpow]; omega
    have N : ∀ r' : Int, r' = 2 * r + x0 / 9223372036854775808 → 0 ≤ r' → r' < c → Ev (fun k => accountingref02_divide.l0 k ((2 * x0) % 18446744073709551616 + x1 / 9223372036854775808) ((2 * x1) % 18446744073709551616) c (2 * q0 + q1 / 9223372036854775808) ((2 * q1) % 18446744073709551616) r' ((i + 1 : Nat) : Int)) (P / c / 18446744073709551616, P / c % 18446744073709551616, P % c) := by
      intro r' hr q2 q3
      refine accountingref02_divide.go P c h0 h1 hc hc1 g (i + 1) _ _ _ _ r' (by omega) (by omega) (by omega) (by omega) (by omega) (by omega) (by omega) (by omega) (by omega) q2 q3 ?_ ?_
      · rw [f1, hW2, hW]
        generalize c * (q0 * 18446744073709551616 + q1) = E at *
        generalize c * (2 * (q0 * 18446744073709551616 + q1)) = E2 at *
        omega
      · rw [f1, hpow]; omega
    refine Ev.succ ?_
    simp only [accountingref02_divide.l0, if_pos gi, d0, d1, d2, n0, n1, n2, n4, n5, n6]
    by_cases hb : r ≥ 9223372036854775808
    · simp only [if_pos hb]
      rw [em]
      exact S _ (by omega) (by omega) (by omega)
    · by_cases hb2 : (2 * r) % 18446744073709551616 + x0 / 9223372036854775808 ≥ c
      · simp only [if_neg hb, if_pos hb2]
        rw [em]
        exact S _ (by omega) (by omega) (by omega)
      · simp only [if_neg hb, if_neg hb2, n3]
        exact N _ (by omega) (by omega) (by omega)
theorem accountingref02_divide.eq {P c : Int} (h0 : 0 ≤ P) (h1 : P < 340282366920938463463374607431768211456) (hc : 0 < c) (hc1 : c < 18446744073709551616) : Ev (fun k => accountingref02_divide.f k (P / 18446744073709551616) (P % 18446744073709551616) c) (P / c / 18446744073709551616, P / c % 18446744073709551616, P % c) :=
  accountingref02_divide.go P c h0 h1 hc hc1 128 0 _ _ 0 0 0 rfl (by omega) (by omega) (by omega) (by omega) (by omega) (by omega) (by omega) (by omega) (by omega) hc (by simp; omega) (by simp)
theorem accountingref02_away.eq {mode : Int} {neg : Bool} {q r c : Int} (hq : 0 ≤ q) (hm : 1 ≤ mode ∧ mode ≤ 5) (h0 : 0 ≤ r) (h1 : r < c) (h2 : c < 18446744073709551616) : accountingref02_away.f mode neg ((Int.tmod q 2) == 1) r c = some (awayv mode neg q r c) := by
  have e : IntKind.u64.wrap (c - r) = c - r := u64w (by omega) (by omega)
  have e2 : Int.tmod q 2 = q % 2 := Int.tmod_eq_emod_of_nonneg hq
  unfold accountingref02_away.f awayv
  rw [e, e2]
  have hmm : mode = 1 ∨ mode = 2 ∨ mode = 3 ∨ mode = 4 ∨ mode = 5 := by omega
  have hrc : (0 < r) ↔ ¬ r = 0 := by omega
  rcases hmm with rfl | rfl | rfl | rfl | rfl
  · simp
  · by_cases hr : r = 0 <;> simp [hr]
    omega
  · by_cases hr : r = 0 <;> simp [hr]
    omega
  · by_cases hr : r = 0
    · subst hr
      have x1 : ¬ (0 : Int) > c - 0 := by omega
      have x2 : ¬ (0 : Int) = c - 0 := by omega
      rw [if_neg (by decide), if_neg (by decide), if_pos rfl, if_neg x1, if_neg x2]
      simp
    · by_cases h3 : r > c - r
      · have h4 : c - r < r := h3
        simp [h3, hr]
      · have h4 : ¬ c - r < r := h3
        by_cases h5 : r = c - r
        · rw [if_neg (by decide), if_neg (by decide), if_pos rfl, if_neg h3, if_pos h5]
          simp [h4, ← h5, hr]
          by_cases h6 : q % 2 = 1 <;> simp [h6]
        · simp [h3, h4, h5]
  · by_cases hr : r = 0 <;> cases neg <;> simp [hr]
    omega
theorem rsignv_big {neg : Bool} {z : Int} (h : 9223372036854775808 < z) : signv neg z = (0, 4) := by
  unfold signv
  cases neg
  · simp; omega
  · simp; omega
theorem rnegv_eq {a b c : Int} : negv a b c = if (decide (ab a * ab b = 0)) = true then false else (((decide (a < 0)) != (decide (b < 0))) != (decide (c < 0))) := by
  unfold negv
  have e : (ab a * ab b = 0) ↔ (a * b = 0) := by
    rw [Int.mul_eq_zero, Int.mul_eq_zero, ab_zero, ab_zero]
  by_cases h : a * b = 0
  · simp [e, h]
  · simp [e, h]
theorem accountingref02_MulDiv.j2_eq {z : Int} {neg : Bool} (h0 : 0 ≤ z) (h1 : z ≤ 18446744073709551615) : Ev (fun k => accountingref02_MulDiv.j2 k z neg) (signv neg z) := by
  have J : ∀ b, Ev (fun k => accountingref02_MulDiv.j3 k z neg b) (if b = true then (0, 4) else if z = 9223372036854775808 then (-9223372036854775808, 0) else if neg = true then (wrap64 (-(wrap64 z)), 0) else (wrap64 z, 0)) := by
    intro b
    refine Ev.succ ?_
    cases b
    · simp only [accountingref02_MulDiv.j3, Bool.false_eq_true, if_false]
      split
      · exact Ev.const _
      · cases neg
        · simp only [Bool.false_eq_true, if_false]; exact Ev.const _
        · simp only [if_true]; exact Ev.const _
    · simp only [accountingref02_MulDiv.j3, if_true]; exact Ev.const _
  refine Ev.succ ?_
  by_cases h2 : z > 9223372036854775808
  · simp only [accountingref02_MulDiv.j2, if_pos h2]
    have := J true
    simp only [if_true] at this
    rw [rsignv_big h2]; exact this
  · by_cases h3 : z = 9223372036854775808
    · simp only [accountingref02_MulDiv.j2, if_neg h2, if_pos h3]
      have := J (!neg)
      subst h3
      unfold signv
      cases neg
      · simpa using this
      · simpa using this
    · simp only [accountingref02_MulDiv.j2, if_neg h2, if_neg h3]
      have := J false
      unfold signv
      simp only [Bool.false_eq_true, if_false, if_neg h3] at this
      rw [w64 (n := z) (by omega) (by omega), w64 (n := -z) (by omega) (by omega)] at this
      rw [if_neg h2, if_neg (show ¬ z ≥ 9223372036854775808 by omega)]
      exact this
theorem accountingref02_MulDiv.eq {a b c : Int} (mode : Int) (ha : inI a) (hb : inI b) (hc : inI c) : Ev (fun k => accountingref02_MulDiv.f k a b c mode) (mdv a b c mode) := by
  unfold mdv
  by_cases hm : mode < 1 ∨ mode > 5
  · rw [if_pos hm]
    have j : Ev (fun k => accountingref02_MulDiv.j0 k a b c mode true) (0, 10) := by
      refine Ev.succ ?_
      simp only [accountingref02_MulDiv.j0, if_true]
      exact Ev.const _
    by_cases h1 : mode < 1
    · simp only [accountingref02_MulDiv.f, if_pos h1]; exact j
    · have h2 : mode > 5 := by omega
      simp only [accountingref02_MulDiv.f, if_neg h1, decide_eq_true h2]; exact j
  rw [if_neg hm]
  have h1 : ¬ mode < 1 := by omega
  have h2 : ¬ mode > 5 := by omega
  simp only [accountingref02_MulDiv.f, if_neg h1, decide_eq_false h2]
  refine Ev.succ ?_
  simp only [accountingref02_MulDiv.j0, Bool.false_eq_true, if_false]
  by_cases h3 : c = 0
  · simp only [if_pos h3]; exact Ev.const _
  have ba := ab_bound ha; have bb := ab_bound hb; have bc := ab_bound hc; have pc := ab_pos h3
  have bp := prod_ab ha hb
  simp only [if_neg h3, accountingref02_mag.eq ha, accountingref02_mag.eq hb, accountingref02_mag.eq hc, Option.bind_some, accountingref02_wide.eq ba.1 (show ab a < 18446744073709551616 by omega) bb.1 (show ab b < 18446744073709551616 by omega)]
  refine Ev.bind (accountingref02_divide.eq bp.1 (by have := bp.2; omega) pc (by omega)) ?_
  have q0 : 0 ≤ ab a * ab b / ab c := Int.ediv_nonneg bp.1 (by omega)
  have r0 : 0 ≤ ab a * ab b % ab c := Int.emod_nonneg _ (by omega)
  have r1 : ab a * ab b % ab c < ab c := Int.emod_lt_of_pos _ pc
  have hneg : (((decide (a < 0)) != (decide (b < 0))) != (decide (c < 0))) = negv a b c ∨ ab a * ab b = 0 := by
    by_cases hp : ab a * ab b = 0
    · exact .inr hp
    · refine .inl ?_
      rw [rnegv_eq]; simp [hp]
  by_cases hb : ab a * ab b / ab c > 9223372036854775808
  · have big : signv (negv a b c) (sizev a b c mode) = (0, 4) := rsignv_big (by unfold sizev; split <;> omega)
    rw [big]
    have j : ∀ x y z w u, Ev (fun k => accountingref02_MulDiv.j1 k x y z w u true) (0, 4) := fun x y z w u => by
      refine Ev.succ ?_
      simp only [accountingref02_MulDiv.j1, if_true]
      exact Ev.const _
    by_cases hh : ab a * ab b / ab c / 18446744073709551616 > 0
    · simp only [if_pos hh]; exact j _ _ _ _ _
    · have : ab a * ab b / ab c % 18446744073709551616 > 9223372036854775808 := by omega
      simp only [if_neg hh, decide_eq_true this]; exact j _ _ _ _ _
  · have hh : ¬ ab a * ab b / ab c / 18446744073709551616 > 0 := by omega
    have hl : ab a * ab b / ab c % 18446744073709551616 = ab a * ab b / ab c := by omega
    simp only [if_neg hh, hl, decide_eq_false hb]
    refine Ev.succ ?_
    have aw := accountingref02_away.eq (mode := mode) (neg := ((decide (a < 0)) != (decide (b < 0))) != (decide (c < 0))) q0 (by omega) r0 r1 (show ab c < 18446744073709551616 by omega)
    simp only [accountingref02_MulDiv.j1, Bool.false_eq_true, if_false, accountingref02_mag.eq hc, Option.bind_some, aw]
    have uw : IntKind.u64.wrap (ab a * ab b / ab c + 1) = ab a * ab b / ab c + 1 := u64w (by omega) (by omega)
    unfold sizev
    rcases hneg with hneg | hp
    · rw [hneg]
      split
      · rw [uw]; exact accountingref02_MulDiv.j2_eq (by omega) (by omega)
      · rw [Int.add_zero]; exact accountingref02_MulDiv.j2_eq q0 (by omega)
    · have z1 : ∀ n, awayv mode n (ab a * ab b / ab c) (ab a * ab b % ab c) (ab c) = false := fun n => by unfold awayv; simp [hp]
      simp only [z1, Bool.false_eq_true, if_false, Int.add_zero]
      have := accountingref02_MulDiv.j2_eq (z := ab a * ab b / ab c) (neg := ((decide (a < 0)) != (decide (b < 0))) != (decide (c < 0))) q0 (by omega)
      have s0 : ∀ n, signv n (ab a * ab b / ab c) = (0, 0) := fun n => by unfold signv; rw [hp]; cases n <;> simp
      rw [s0] at this ⊢
      exact this
theorem accountingref02_Mod.eq {a b c : Int} (ha : inI a) (hb : inI b) (hc : inI c) : Ev (fun k => accountingref02_Mod.f k a b c) (modv a b c) := by
  unfold modv accountingref02_Mod.f
  by_cases h3 : c = 0
  · simp only [if_pos h3]; exact Ev.const _
  have ba := ab_bound ha; have bb := ab_bound hb; have bc := ab_bound hc; have pc := ab_pos h3
  have bp := prod_ab ha hb
  simp only [if_neg h3, accountingref02_mag.eq ha, accountingref02_mag.eq hb, accountingref02_mag.eq hc, Option.bind_some, accountingref02_wide.eq ba.1 (show ab a < 18446744073709551616 by omega) bb.1 (show ab b < 18446744073709551616 by omega)]
  refine Ev.bind (accountingref02_divide.eq bp.1 (by have := bp.2; omega) pc (by omega)) ?_
  have r0 : 0 ≤ ab a * ab b % ab c := Int.emod_nonneg _ (by omega)
  have r1 : ab a * ab b % ab c < ab c := Int.emod_lt_of_pos _ pc
  have sg : a * b = if ((decide (a < 0)) != (decide (b < 0))) = true then -(ab a * ab b) else ab a * ab b := by
    unfold ab
    by_cases x : a < 0 <;> by_cases y : b < 0 <;> simp [x, y, Int.neg_mul, Int.mul_neg]
  have e1 : ∀ z : Int, 0 ≤ z → z < ab c → wrap64 z = z := fun z z0 z1 => w64 (by omega) (by omega)
  rw [sg]
  by_cases hz : ab a * ab b % ab c > 0
  · simp only [if_pos hz]
    by_cases n : ((decide (a < 0)) != (decide (b < 0))) = true
    · simp only [if_pos n]
      rw [u64w (n := ab c - ab a * ab b % ab c) (by omega) (by omega), e1 (ab c - ab a * ab b % ab c) (by omega) (by omega)]
      have h := Int.emod_add_mul_ediv (ab a * ab b) (ab c)
      have : -(ab a * ab b) = (ab c - ab a * ab b % ab c) + ab c * (-(ab a * ab b / ab c) - 1) := by
        rw [Int.mul_sub, Int.mul_neg]; omega
      have z := Int.emod_eq_of_lt (a := ab c - ab a * ab b % ab c) (b := ab c) (by omega) (by omega)
      rw [this, Int.add_mul_emod_self_left, z]
      exact Ev.const _
    · simp only [if_neg n]
      rw [e1 _ r0 r1]
      exact Ev.const _
  · have hz0 : ab a * ab b % ab c = 0 := by omega
    simp only [if_neg hz]
    have z : (if ((decide (a < 0)) != (decide (b < 0))) = true then -(ab a * ab b) else ab a * ab b) % ab c = 0 := by
      split
      · exact Int.emod_eq_zero_of_dvd (Int.dvd_neg.2 (Int.dvd_of_emod_eq_zero hz0))
      · exact hz0
    rw [z, hz0, w64 (n := 0) (by omega) (by omega)]
    exact Ev.const _
end Go.Proofs.Ytikglhfeookhaaa.M
end
section
/- split.Shares and its specification: both come to one list. -/
namespace Go.Proofs.Ytikglhfeookhaaa.M
open Go.RowKit Go.Proofs.YtikglhfeookhaaaW.PrintWords Dv
set_option linter.unusedVariables false
/-- The error of the chapter. -/
def shErr (a : Int) (l : List Int) : Int :=
  if l.length > 200 then 9 else if a > 1000000000000000 ∨ a < -1000000000000000 then 4 else if ∃ x ∈ l, x < 0 then 2 else if l.sum > 1000000000000000 then 4 else if l.sum = 0 then 2 else 0
theorem sum_nonneg : ∀ l : List Int, (∀ x ∈ l, 0 ≤ x) → 0 ≤ l.sum
  | [], _ => by simp
  | x :: l, h => by
    have h1 := h x (by simp)
    have h2 := sum_nonneg l (fun y hy => h y (by simp [hy]))
    simp only [List.sum_cons]; omega
theorem slices_IndexFunc_int_int__split_total_1.go : ∀ (B A : List Int) (i n : Int), i = (A.length : Int) → n = (A.length : Int) + B.length → n < 1000000 → ∃ v, Ev (fun k => slices_IndexFunc_int_int__split_total_1.l0 k (A ++ B) n i) v ∧ ((0 ≤ v) ↔ ∃ x ∈ B, x < 0)
  | [], A, i, n, hi, hn, hs => by
    refine ⟨-1, Ev.succ ?_, by simp⟩
    have g : ¬ i < n := by simp at hn; omega
    simp only [slices_IndexFunc_int_int__split_total_1.l0, if_neg g]
    exact Ev.const _
  | x :: B, A, i, n, hi, hn, hs => by
    simp only [List.length_cons] at hn
    have g : i < n := by omega
    have g1 : 0 ≤ i := by omega
    have g2 : i < ((A ++ x :: B).length : Int) := by simp; omega
    have r := rd_at A x B i hi
    have e : wrap64 (i + 1) = i + 1 := w64 (by omega) (by omega)
    by_cases hx : x < 0
    · refine ⟨i, Ev.succ ?_, by simp [hx, g1]⟩
      simp only [slices_IndexFunc_int_int__split_total_1.l0, if_pos g, if_pos g1, if_pos g2, r, split_total_1.f, Option.bind_some, decide_eq_true hx, if_true]
      exact Ev.const _
    · obtain ⟨v, h1, h2⟩ := slices_IndexFunc_int_int__split_total_1.go B (A ++ [x]) (i + 1) n (by simp; omega) (by simp; omega) hs
      refine ⟨v, Ev.succ ?_, by rw [h2]; simp [hx]⟩
      simp only [slices_IndexFunc_int_int__split_total_1.l0, if_pos g, if_pos g1, if_pos g2, r, split_total_1.f, Option.bind_some, decide_eq_false hx, Bool.false_eq_true, if_false, e]
      simpa using h1
theorem slices_ContainsFunc_int_int__split_total_1.eq (l : List Int) (h : l.length < 1000000) : Ev (fun k => slices_ContainsFunc_int_int__split_total_1.f k l) (decide (∃ x ∈ l, x < 0)) := by
  obtain ⟨v, h1, h2⟩ := slices_IndexFunc_int_int__split_total_1.go l [] 0 l.length rfl (by simp) (by omega)
  unfold slices_ContainsFunc_int_int__split_total_1.f slices_IndexFunc_int_int__split_total_1.f
  refine Ev.bind (by simpa using h1) ?_
  have : (decide (v ≥ 0)) = decide (∃ x ∈ l, x < 0) := by
    by_cases hx : ∃ x ∈ l, x < 0
    · rw [decide_eq_true hx, decide_eq_true (h2.2 hx)]
    · rw [decide_eq_false hx, decide_eq_false (fun k => hx (h2.1 k))]
  rw [this]
  exact Ev.const _
/-- What the summing comes to, from a sum so far. -/
def sumFrom (s : Int) (B : List Int) : Int × Int := if s + B.sum > 1000000000000000 then (0, 4) else if s + B.sum = 0 then (0, 2) else (s + B.sum, 0)
theorem split_total.go : ∀ (B A : List Int) (s i n : Int), i = (A.length : Int) → n = (A.length : Int) + B.length → n < 1000000 → 0 ≤ s → s ≤ 1000000000000000 → (∀ x ∈ B, 0 ≤ x ∧ x ≤ 9223372036854775807) → Ev (fun k => split_total.l0 k s (A ++ B) n i) (sumFrom s B)
  | [], A, s, i, n, hi, hn, hs, h0, h1, hB => by
    refine Ev.succ ?_
    have g : ¬ i < n := by simp at hn; omega
    simp only [split_total.l0, if_neg g, sumFrom, List.sum_nil, Int.add_zero, if_neg (show ¬ s > 1000000000000000 by omega)]
    split
    · exact Ev.const _
    · exact Ev.const _
  | x :: B, A, s, i, n, hi, hn, hs, h0, h1, hB => by
    simp only [List.length_cons] at hn
    have g : i < n := by omega
    have g1 : 0 ≤ i := by omega
    have g2 : i < ((A ++ x :: B).length : Int) := by simp; omega
    have r := rd_at A x B i hi
    have e : wrap64 (i + 1) = i + 1 := w64 (by omega) (by omega)
    have hx := hB x (by simp)
    have e2 : wrap64 (1000000000000000 - s) = 1000000000000000 - s := w64 (by omega) (by omega)
    have hBs := sum_nonneg B (fun y hy => (hB y (by simp [hy])).1)
    refine Ev.succ ?_
    by_cases hc : x > 1000000000000000 - s
    · simp only [split_total.l0, if_pos g, if_pos g1, if_pos g2, r, e2, if_pos hc]
      have : sumFrom s (x :: B) = (0, 4) := by unfold sumFrom; rw [List.sum_cons, if_pos (by omega)]
      rw [this]; exact Ev.const _
    · have e3 : wrap64 (s + x) = s + x := w64 (by omega) (by omega)
      simp only [split_total.l0, if_pos g, if_pos g1, if_pos g2, r, e2, if_neg hc, e, e3]
      have ih := split_total.go B (A ++ [x]) (s + x) (i + 1) n (by simp; omega) (by simp; omega) hs (by omega) (by omega) (fun y hy => hB y (by simp [hy]))
      have : sumFrom s (x :: B) = sumFrom (s + x) B := by unfold sumFrom; rw [List.sum_cons, Int.add_assoc]
      rw [this]; simpa using ih
theorem accountingref08_total.go1 : ∀ (B A : List Int) (s i : Int), i = (A.length : Int) → (A ++ B).length < 1000000 → 0 ≤ s → s ≤ 1000000000000000 → (∀ x ∈ B, 0 ≤ x ∧ x ≤ 9223372036854775807) → Ev (fun k => accountingref08_total.l1 k (A ++ B) s i) (sumFrom s B)
  | [], A, s, i, hi, hs, h0, h1, hB => by
    refine Ev.succ ?_
    have g : ¬ i < ((A ++ []).length : Int) := by simp; omega
    simp only [accountingref08_total.l1, if_neg g, sumFrom, List.sum_nil, Int.add_zero, if_neg (show ¬ s > 1000000000000000 by omega)]
    split
    · exact Ev.const _
    · exact Ev.const _
  | x :: B, A, s, i, hi, hs, h0, h1, hB => by
    simp only [List.length_append, List.length_cons] at hs
    have g1 : 0 ≤ i := by omega
    have g2 : i < ((A ++ x :: B).length : Int) := by simp; omega
    have r := rd_at A x B i hi
    have e : wrap64 (i + 1) = i + 1 := w64 (by omega) (by omega)
    have hx := hB x (by simp)
    have e2 : wrap64 (1000000000000000 - s) = 1000000000000000 - s := w64 (by omega) (by omega)
    have hBs := sum_nonneg B (fun y hy => (hB y (by simp [hy])).1)
    refine Ev.succ ?_
    by_cases hc : x > 1000000000000000 - s
    · simp only [accountingref08_total.l1, if_pos g1, if_pos g2, r, e2, if_pos hc]
      have : sumFrom s (x :: B) = (0, 4) := by unfold sumFrom; rw [List.sum_cons, if_pos (by omega)]
      rw [this]; exact Ev.const _
    · have e3 : wrap64 (s + x) = s + x := w64 (by omega) (by omega)
      simp only [accountingref08_total.l1, if_pos g1, if_pos g2, r, e2, if_neg hc, e, e3]
      have ih := accountingref08_total.go1 B (A ++ [x]) (s + x) (i + 1) (by simp; omega) (by simp only [List.length_append, List.length_cons, List.length_nil]; omega) (by omega) (by omega) (fun y hy => hB y (by simp [hy]))
      have : sumFrom s (x :: B) = sumFrom (s + x) B := by unfold sumFrom; rw [List.sum_cons, Int.add_assoc]
      rw [this]; simpa using ih
theorem accountingref08_total.go0 (L : List Int) (hL : ∀ x ∈ L, x ≤ 9223372036854775807) (hs : L.length < 1000000) : ∀ (B A : List Int) (i : Int), L = A ++ B → i = (A.length : Int) → (∀ x ∈ A, 0 ≤ x) → Ev (fun k => accountingref08_total.l0 k L i) (if ∃ x ∈ B, x < 0 then (0, 2) else sumFrom 0 L)
  | [], A, i, he, hi, hA => by
    refine Ev.succ ?_
    have g : ¬ i < (L.length : Int) := by subst he; simp; omega
    simp only [accountingref08_total.l0, if_neg g]
    have := accountingref08_total.go1 L [] 0 0 rfl (by simpa using hs) (by omega) (by omega) (fun x hx => ⟨by subst he; exact hA x (by simpa using hx), hL x hx⟩)
    simpa using this
  | x :: B, A, i, he, hi, hA => by
    have hl : (L.length : Int) = A.length + B.length + 1 := by subst he; simp; omega
    have g1 : 0 ≤ i := by omega
    have g2 : i < (L.length : Int) := by omega
    have r : rd L i = x := by subst he; exact rd_at A x B i hi
    have e : wrap64 (i + 1) = i + 1 := w64 (by omega) (by omega)
    refine Ev.succ ?_
    by_cases hx : x < 0
    · simp only [accountingref08_total.l0, if_pos g1, if_pos g2, r, if_pos hx]
      rw [if_pos ⟨x, by simp, hx⟩]; exact Ev.const _
    · simp only [accountingref08_total.l0, if_pos g1, if_pos g2, r, if_neg hx, e]
      have ih := accountingref08_total.go0 L hL hs B (A ++ [x]) (i + 1) (by simp [he]) (by simp; omega) (fun y hy => by
        rcases List.mem_append.1 hy with h | h
        · exact hA y h
        · rw [List.mem_singleton.1 h]; omega)
      have : (∃ y ∈ x :: B, y < 0) ↔ ∃ y ∈ B, y < 0 := by simp [hx]
      simp only [this]
      exact ih
theorem sumFrom_zero (l : List Int) : sumFrom 0 l = if l.sum > 1000000000000000 then (0, 4) else if l.sum = 0 then (0, 2) else (l.sum, 0) := by simp [sumFrom]
theorem split_total.eq (l : List Int) (hl : l.length < 1000000) (hw : ∀ x ∈ l, x ≤ 9223372036854775807) : Ev (fun k => split_total.f k l) (if ∃ x ∈ l, x < 0 then (0, 2) else sumFrom 0 l) := by
  unfold split_total.f
  refine Ev.bind (slices_ContainsFunc_int_int__split_total_1.eq l hl) ?_
  by_cases h : ∃ x ∈ l, x < 0
  · simp only [decide_eq_true h, if_true, if_pos h]; exact Ev.const _
  · simp only [decide_eq_false h, Bool.false_eq_true, if_false, if_neg h]
    have := split_total.go l [] 0 0 l.length rfl (by simp) (by omega) (by omega) (by omega) (fun x hx => ⟨by
      have : ¬ x < 0 := fun k => h ⟨x, hx, k⟩
      omega, hw x hx⟩)
    simpa using this
/-! The ranking of remainders. -/
/-- Which of two remainders comes first. -/
def rOrd (r : List Int) (i k : Int) : Prop := rd r i > rd r k ∨ (rd r i = rd r k ∧ i < k)
theorem rOrd.tot (r : List Int) : Tot (rOrd r) where
  trans x y z h k := by unfold rOrd at *; omega
  tot x y h := by unfold rOrd; omega
  irr x h := by unfold rOrd at h; omega
/-- 0, 1, .., n - 1. -/
def idx (n : Nat) : List Int := (List.range n).map fun (i : Nat) => (i : Int)
theorem idx_length (n : Nat) : (idx n).length = n := by simp [idx]
theorem idx_succ (n : Nat) : idx (n + 1) = idx n ++ [(n : Int)] := by simp [idx, List.range_succ]
theorem mem_idx (n : Nat) (i : Int) : i ∈ idx n ↔ 0 ≤ i ∧ i < n := by
  simp only [idx, List.mem_map, List.mem_range]
  constructor
  · rintro ⟨j, h, rfl⟩; omega
  · intro h; exact ⟨i.toNat, by omega, by omega⟩
theorem idx_lt (n : Nat) : (idx n).Pairwise (· < ·) := by
  unfold idx
  rw [List.pairwise_map]
  exact List.pairwise_lt_range.imp (fun h => by omega)
theorem rk_ex (r : List Int) (h : r.length < 1000) : ∃ Z, Z.Perm (idx r.length) ∧ Z.Pairwise (rOrd r) ∧ Ev (fun k => slices_stableCmpFunc_int__split_ranked_1.f k (idx r.length) r.length r) Z := by
  refine slices_stableCmpFunc_int__split_ranked_1.f_sort r (rOrd r) (rOrd.tot r) (idx r.length) ?_ r.length (by rw [idx_length]) (by rw [idx_length]; omega)
  refine (List.Pairwise.and_mem.1 (idx_lt r.length)).imp ?_
  rintro x y ⟨hx, hy, hxy⟩
  rw [mem_idx] at hx hy
  refine ⟨by omega, ?_⟩
  unfold split_ranked_1.f
  simp only [if_pos hx.1, if_pos hx.2, if_pos hy.1, if_pos hy.2]
  by_cases c1 : rd r y > rd r x
  · exact ⟨-1, by rw [if_pos c1], by unfold rOrd; constructor <;> intro <;> omega⟩
  · by_cases c2 : rd r y < rd r x
    · exact ⟨1, by rw [if_neg c1, if_pos c2], by unfold rOrd; constructor <;> intro <;> omega⟩
    · exact ⟨0, by rw [if_neg c1, if_neg c2], by unfold rOrd; constructor <;> intro <;> omega⟩
open Classical in
/-- The places in the order of their remainders. -/
noncomputable def rk (r : List Int) : List Int := if h : ∃ Z : List Int, Z.Perm (idx r.length) ∧ Z.Pairwise (rOrd r) then h.choose else []
theorem rk_spec (r : List Int) (h : r.length < 1000) : (rk r).Perm (idx r.length) ∧ (rk r).Pairwise (rOrd r) := by
  obtain ⟨Z, z1, z2, _⟩ := rk_ex r h
  have e : ∃ Z : List Int, Z.Perm (idx r.length) ∧ Z.Pairwise (rOrd r) := ⟨Z, z1, z2⟩
  unfold rk
  rw [dif_pos e]
  exact e.choose_spec
theorem rk_uniq (r Z : List Int) (h : r.length < 1000) (h1 : Z.Perm (idx r.length)) (h2 : Z.Pairwise (rOrd r)) : Z = rk r := by
  obtain ⟨r1, r2⟩ := rk_spec r h
  exact List.Perm.eq_of_pairwise (le := rOrd r) (fun a b _ _ k1 k2 => absurd k2 ((rOrd.tot r).asym k1)) h2 r2 (h1.trans r1.symm)
theorem split_ranked.fill (r : List Int) (N : Nat) (Z : List Int) (hN : N < 1000) (hZ : Ev (fun k => slices_stableCmpFunc_int__split_ranked_1.f k (idx N) N r) Z) : ∀ (d i : Nat), i + d = N → Ev (fun k => split_ranked.l0 k (idx i ++ List.replicate d 0) N i r) Z
  | 0, i, h => by
    obtain rfl : i = N := by omega
    refine Ev.succ ?_
    have g : ¬ (i : Int) < i := by omega
    have hl : (idx i ++ List.replicate 0 (0 : Int)).length = i := by simp [idx_length]
    have g1 : (0 : Int) ≤ ((idx i ++ List.replicate 0 (0 : Int)).length : Int) := by omega
    have g2 : ((idx i ++ List.replicate 0 (0 : Int)).length : Int).toNat ≤ 35184372088832 := by omega
    simp only [split_ranked.l0, if_neg g, if_pos g1, if_pos g2, pw_copy_22.f, Option.bind_some]
    have e : (idx i ++ List.replicate 0 (0 : Int)).take (List.replicate ((idx i ++ List.replicate 0 (0 : Int)).length : Int).toNat (0 : Int)).length ++ (List.replicate ((idx i ++ List.replicate 0 (0 : Int)).length : Int).toNat (0 : Int)).drop (idx i ++ List.replicate 0 (0 : Int)).length = idx i := by
      simp [idx_length]
      exact List.take_of_length_le (by rw [idx_length]; omega)
    rw [e]
    refine Ev.bind (a := Z) ?_ (Ev.const _)
    unfold slices_SortStableFunc_int_int__split_ranked_1.f
    rw [idx_length]
    exact Ev.bind hZ (Ev.const _)
  | d + 1, i, h => by
    have hl : (idx i ++ List.replicate (d + 1) (0 : Int)).length = N := by simp [idx_length]; omega
    have g : (i : Int) < N := by omega
    have g1 : (0 : Int) ≤ i := by omega
    have g2 : (i : Int) < ((idx i ++ List.replicate (d + 1) (0 : Int)).length : Int) := by omega
    have e : wrap64 ((i : Int) + 1) = ((i + 1 : Nat) : Int) := by rw [w64 (by omega) (by omega)]; omega
    refine Ev.succ ?_
    simp only [split_ranked.l0, if_pos g, if_pos g1, if_pos g2, e]
    have s1 : (idx i ++ List.replicate (d + 1) (0 : Int)).set (i : Int).toNat i = idx (i + 1) ++ List.replicate d 0 := by
      rw [List.replicate_succ, set_at _ _ _ _ _ (by rw [idx_length]), idx_succ]; simp
    rw [s1]
    exact split_ranked.fill r N Z hN hZ d (i + 1) (by omega)
theorem split_ranked.eq (r : List Int) (h : r.length < 1000) : Ev (fun k => split_ranked.f k r) (rk r) := by
  obtain ⟨Z, z1, z2, z3⟩ := rk_ex r h
  rw [← rk_uniq r Z h z1 z2]
  have g1 : (0 : Int) ≤ (r.length : Int) := by omega
  have g2 : (r.length : Int).toNat ≤ 35184372088832 := by omega
  simp only [split_ranked.f, if_pos g1, if_pos g2, Option.bind_some]
  have := split_ranked.fill r r.length Z h z3 r.length 0 (by omega)
  simpa [idx] using this
/-- Each place's part is one more. -/
def inc (x Y : List Int) : List Int := Y.foldl (fun x y => x.set y.toNat (rd x y + 1)) x
theorem inc_cons (x : List Int) (y : Int) (Y : List Int) : inc x (y :: Y) = inc (x.set y.toNat (rd x y + 1)) Y := rfl
theorem inc_length : ∀ (Y x : List Int), (inc x Y).length = x.length
  | [], x => rfl
  | y :: Y, x => by rw [inc_cons, inc_length Y]; simp
theorem rd_set (x : List Int) (i j v : Int) (hi : 0 ≤ i) (hi2 : i < x.length) (hj : 0 ≤ j) : rd (x.set i.toNat v) j = if j = i then v else rd x j := by
  unfold rd
  rw [List.getD_eq_getElem?_getD, List.getElem?_set]
  by_cases h : j = i
  · subst h
    rw [if_pos rfl, if_pos (by omega), if_pos rfl]; rfl
  · rw [if_neg (by omega), if_neg h, List.getD_eq_getElem?_getD]
theorem rd_inc : ∀ (Y x : List Int) (i : Int), Y.Nodup → (∀ y ∈ Y, 0 ≤ y ∧ y < x.length) → 0 ≤ i → rd (inc x Y) i = rd x i + if i ∈ Y then 1 else 0
  | [], x, i, _, _, _ => by simp [inc]
  | y :: Y, x, i, hn, hy, hi => by
    obtain ⟨n1, n2⟩ := List.nodup_cons.1 hn
    have h0 := hy y (by simp)
    rw [inc_cons, rd_inc Y _ i n2 (fun z hz => by rw [List.length_set]; exact hy z (by simp [hz])) hi, rd_set x y i _ h0.1 h0.2 hi]
    by_cases h : i = y
    · subst h; simp [n1]
    · simp [h]
theorem rd_mem' (x : List Int) (i : Int) (h0 : 0 ≤ i) (h1 : i < x.length) : rd x i ∈ x := by
  have := rd_mem [] x [] i (by simpa using h0) (by simpa using h1)
  simpa using this
theorem mem_set' {x : List Int} {n : Nat} {v w : Int} (h : w ∈ x.set n v) : w = v ∨ w ∈ x := by
  rcases List.mem_or_eq_of_mem_set h with h | h
  · exact .inr h
  · exact .inl h
theorem split_divide.go1 : ∀ (Y2 Y1 x : List Int) (n i : Int), i = (Y1.length : Int) → n = (Y1.length : Int) + Y2.length → n < 1000000 → (∀ y ∈ Y2, 0 ≤ y ∧ y < x.length) → (∀ v ∈ x, 0 ≤ v ∧ v + Y2.length ≤ 9000000000000000000) → Ev (fun k => split_divide.l1 k x (Y1 ++ Y2) n i) (inc x Y2)
  | [], Y1, x, n, i, hi, hn, hs, hy, hv => by
    refine Ev.succ ?_
    have g : ¬ i < n := by simp at hn; omega
    simp only [split_divide.l1, if_neg g]
    exact Ev.const _
  | y :: Y2, Y1, x, n, i, hi, hn, hs, hy, hv => by
    simp only [List.length_cons] at hn hv
    have h0 := hy y (by simp)
    have g : i < n := by omega
    have g1 : 0 ≤ i := by omega
    have g2 : i < ((Y1 ++ y :: Y2).length : Int) := by simp; omega
    have r := rd_at Y1 y Y2 i hi
    have hm := hv _ (rd_mem' x y h0.1 h0.2)
    have e : wrap64 (i + 1) = i + 1 := w64 (by omega) (by omega)
    have e2 : wrap64 (rd x y + 1) = rd x y + 1 := w64 (by omega) (by omega)
    refine Ev.succ ?_
    simp only [split_divide.l1, if_pos g, if_pos g1, if_pos g2, r, if_pos h0.1, if_pos h0.2, e, e2]
    have ih := split_divide.go1 Y2 (Y1 ++ [y]) (x.set y.toNat (rd x y + 1)) n (i + 1) (by simp; omega) (by simp; omega) hs (fun z hz => by rw [List.length_set]; exact hy z (by simp [hz])) (fun v hvm => by
      rcases mem_set' hvm with rfl | h
      · omega
      · have := hv v h; omega)
    rw [inc_cons]
    simpa using ih
/-- The parts without the remainders, and the remainders. -/
def qs (s t : Int) (l : List Int) : List Int := l.map fun w => s * w / t
def rs (s t : Int) (l : List Int) : List Int := l.map fun w => s * w % t
theorem mdv_down {s w t : Int} (h0 : 0 ≤ s) (h1 : s ≤ 1000000000000000) (h2 : 0 ≤ w) (h3 : w ≤ t) (h4 : 0 < t) : mdv s w t 1 = (s * w / t, 0) ∧ 0 ≤ s * w / t ∧ s * w / t ≤ s := by
  have hp : 0 ≤ s * w := Int.mul_nonneg h0 h2
  have q0 : 0 ≤ s * w / t := Int.ediv_nonneg hp (by omega)
  have q1 : s * w / t ≤ s := by
    have : s * w ≤ s * t := Int.mul_le_mul_of_nonneg_left h3 h0
    have h5 := Int.ediv_le_ediv h4 this
    rwa [Int.mul_ediv_cancel _ (by omega)] at h5
  refine ⟨?_, q0, q1⟩
  unfold mdv
  rw [if_neg (by omega), if_neg (by omega)]
  have n : negv s w t = false := by
    unfold negv
    rw [decide_eq_false (show ¬ s < 0 by omega), decide_eq_false (show ¬ w < 0 by omega), decide_eq_false (show ¬ t < 0 by omega)]
    simp
  have z : sizev s w t 1 = s * w / t := by
    unfold sizev awayv ab
    rw [if_neg (show ¬ s < 0 by omega), if_neg (show ¬ w < 0 by omega), if_neg (show ¬ t < 0 by omega), n]
    simp
  rw [n, z]
  unfold signv
  rw [if_neg (by simp), if_neg (by omega)]
theorem modv_down {s w t : Int} (h4 : 0 < t) : modv s w t = (s * w % t, 0) := by
  unfold modv ab
  rw [if_neg (by omega), if_neg (by omega)]
/-- What is left for the remainders. -/
def lf (s t : Int) (l : List Int) : Int := s - (qs s t l).sum
theorem sum_qr (s t : Int) (ht : 0 < t) : ∀ l : List Int, t * (qs s t l).sum + (rs s t l).sum = s * l.sum
  | [] => by simp [qs, rs]
  | w :: l => by
    have ih := sum_qr s t ht l
    have h := Int.emod_add_mul_ediv (s * w) t
    simp only [qs, rs, List.map_cons, List.sum_cons, Int.mul_add] at *
    omega
theorem rs_bounds (s t : Int) (ht : 0 < t) (l : List Int) : ∀ x ∈ rs s t l, 0 ≤ x ∧ x < t := by
  intro x hx
  obtain ⟨w, _, rfl⟩ := List.mem_map.1 hx
  exact ⟨Int.emod_nonneg _ (by omega), Int.emod_lt_of_pos _ ht⟩
theorem sum_rs (t : Int) : ∀ l : List Int, (∀ x ∈ l, 0 ≤ x ∧ x < t) → 0 ≤ l.sum ∧ l.sum ≤ t * l.length
  | [], _ => by simp
  | x :: l, h => by
    have ih := sum_rs t l (fun y hy => h y (by simp [hy]))
    have hx := h x (by simp)
    simp only [List.sum_cons, List.length_cons]
    have : t * ((l.length + 1 : Nat) : Int) = t * l.length + t := by rw [Int.natCast_add, Int.mul_add]; simp
    omega
theorem lf_bounds (s : Int) (l : List Int) (ht : 0 < l.sum) : 0 ≤ lf s l.sum l ∧ lf s l.sum l ≤ l.length ∧ l.sum * lf s l.sum l = (rs s l.sum l).sum := by
  have h := sum_qr s l.sum ht l
  have hr := sum_rs l.sum (rs s l.sum l) (rs_bounds s l.sum ht l)
  have hl : (rs s l.sum l).length = l.length := by simp [rs]
  rw [hl] at hr
  have e : l.sum * lf s l.sum l = (rs s l.sum l).sum := by
    unfold lf
    rw [Int.mul_sub, Int.mul_comm l.sum s]; omega
  refine ⟨?_, ?_, e⟩
  · have : 0 ≤ l.sum * lf s l.sum l := by omega
    exact Int.nonneg_of_mul_nonneg_right this ht
  · have : l.sum * lf s l.sum l ≤ l.sum * l.length := by omega
    exact Int.le_of_mul_le_mul_left this ht
theorem qs_snoc (s t : Int) (l : List Int) (w : Int) : qs s t (l ++ [w]) = qs s t l ++ [s * w / t] := by simp [qs]
theorem rs_snoc (s t : Int) (l : List Int) (w : Int) : rs s t (l ++ [w]) = rs s t l ++ [s * w % t] := by simp [rs]
theorem qs_bounds {s t : Int} (h0 : 0 ≤ s) (h1 : s ≤ 1000000000000000) (h4 : 0 < t) (l : List Int) (hl : ∀ w ∈ l, 0 ≤ w ∧ w ≤ t) : ∀ x ∈ qs s t l, 0 ≤ x ∧ x ≤ 1000000000000000 := by
  intro x hx
  obtain ⟨w, hw, rfl⟩ := List.mem_map.1 hx
  have := mdv_down h0 h1 (hl w hw).1 (hl w hw).2 h4
  omega
/-- The shares of an amount that is not negative. -/
noncomputable def pos (s : Int) (l : List Int) : List Int := inc (qs s l.sum l) ((rk (rs s l.sum l)).take (lf s l.sum l).toNat)
theorem split_divide.go0 (s t : Int) (h0 : 0 ≤ s) (h1 : s ≤ 1000000000000000) (h4 : 0 < t) (ht : t ≤ 1000000000000000) (X : List Int) : ∀ (W2 W1 : List Int) (n i left : Int), i = (W1.length : Int) → n = (W1.length : Int) + W2.length → n ≤ 1000 → (∀ w ∈ W2, 0 ≤ w ∧ w ≤ t) → left ≤ 1000000000000000 → -1000000000000000 * i ≤ left →
    Ev (fun k => (split_ranked.f k (rs s t (W1 ++ W2))).bind fun t114 => (if 0 ≤ left - (qs s t W2).sum then (if left - (qs s t W2).sum ≤ (t114.length : Int) then ((some (t114.take (left - (qs s t W2).sum).toNat : List Int)).bind fun y117 => (split_divide.l1 k (qs s t (W1 ++ W2)) y117 (y117.length : Int) 0)) else (none)) else (none))) X →
    Ev (fun k => split_divide.l0 k s t (qs s t W1 ++ List.replicate W2.length 0) (rs s t W1 ++ List.replicate W2.length 0) left (W1 ++ W2) n i) X
  | [], W1, n, i, left, hi, hn, hs, hw, l1, l2, hX => by
    refine Ev.succ ?_
    have g : ¬ i < n := by simp at hn; omega
    simp only [split_divide.l0, if_neg g]
    simpa [qs, rs] using hX
  | w :: W2, W1, n, i, left, hi, hn, hs, hw, l1, l2, hX => by
    simp only [List.length_cons] at hn
    have hw0 := hw w (by simp)
    have g : i < n := by omega
    have g1 : 0 ≤ i := by omega
    have g2 : i < ((W1 ++ w :: W2).length : Int) := by simp; omega
    have r := rd_at W1 w W2 i hi
    obtain ⟨m1, m2, m3⟩ := mdv_down h0 h1 hw0.1 hw0.2 h4
    have M := muldiv_MulDiv.eq (a := s) (b := w) (c := t) 1 (by unfold inI; omega) (by unfold inI; omega) (by unfold inI; omega)
    have D := muldiv_Mod.eq (a := s) (b := w) (c := t) (by unfold inI; omega) (by unfold inI; omega) (by unfold inI; omega)
    rw [m1] at M
    rw [modv_down h4] at D
    have e : wrap64 (i + 1) = i + 1 := w64 (by omega) (by omega)
    have e2 : wrap64 (left - s * w / t) = left - s * w / t := w64 (by omega) (by omega)
    have lq : (qs s t W1).length = W1.length := by simp [qs]
    have lr : (rs s t W1).length = W1.length := by simp [rs]
    have g3 : i < ((qs s t W1 ++ List.replicate (w :: W2).length (0 : Int)).length : Int) := by simp [lq]; omega
    have g4 : i < ((rs s t W1 ++ List.replicate (w :: W2).length (0 : Int)).length : Int) := by simp [lr]; omega
    refine Ev.succ ?_
    simp only [split_divide.l0, if_pos g, if_pos g1, if_pos g2, r]
    refine Ev.bind M ?_
    simp only [D, Option.bind_some, if_pos g3, if_pos g4, e, e2]
    have s1 : (qs s t W1 ++ List.replicate (w :: W2).length (0 : Int)).set i.toNat (s * w / t) = qs s t (W1 ++ [w]) ++ List.replicate W2.length 0 := by
      rw [List.length_cons, List.replicate_succ, set_at _ _ _ _ _ (by rw [lq]; exact hi), qs_snoc]; simp
    have s2 : (rs s t W1 ++ List.replicate (w :: W2).length (0 : Int)).set i.toNat (s * w % t) = rs s t (W1 ++ [w]) ++ List.replicate W2.length 0 := by
      rw [List.length_cons, List.replicate_succ, set_at _ _ _ _ _ (by rw [lr]; exact hi), rs_snoc]; simp
    rw [s1, s2]
    have ih := split_divide.go0 s t h0 h1 h4 ht X W2 (W1 ++ [w]) n (i + 1) (left - s * w / t) (by simp; omega) (by simp; omega) hs (fun z hz => hw z (by simp [hz])) (by omega) (by omega) (by
      have e5 : (qs s t (w :: W2)).sum = s * w / t + (qs s t W2).sum := by simp [qs]
      have e6 : left - s * w / t - (qs s t W2).sum = left - (qs s t (w :: W2)).sum := by omega
      rw [e6]
      simpa using hX)
    simpa using ih
theorem le_sum {l : List Int} (h : ∀ x ∈ l, 0 ≤ x) : ∀ x ∈ l, x ≤ l.sum := by
  induction l with
  | nil => intro x hx; simp at hx
  | cons y l ih =>
    intro x hx
    have h1 := sum_nonneg l (fun z hz => h z (by simp [hz]))
    have h2 := h y (by simp)
    rw [List.sum_cons]
    rcases List.mem_cons.1 hx with rfl | hx
    · omega
    · have := ih (fun z hz => h z (by simp [hz])) x hx
      omega
/-- What is taken for granted of an amount without sign, and of weights. -/
structure Fit (s : Int) (l : List Int) : Prop where
  s0 : 0 ≤ s
  s1 : s ≤ 1000000000000000
  w0 : ∀ x ∈ l, 0 ≤ x
  t0 : 0 < l.sum
  t1 : l.sum ≤ 1000000000000000
  n : l.length ≤ 200
theorem Fit.w {s : Int} {l : List Int} (h : Fit s l) : ∀ w ∈ l, 0 ≤ w ∧ w ≤ l.sum := fun w hw => ⟨h.w0 w hw, le_sum h.w0 w hw⟩
theorem Fit.rk {s : Int} {l : List Int} (h : Fit s l) : (rk (rs s l.sum l)).Perm (idx l.length) ∧ (rk (rs s l.sum l)).Pairwise (rOrd (rs s l.sum l)) := by
  have := rk_spec (rs s l.sum l) (by have := h.n; simp [rs]; omega)
  simpa [rs] using this
theorem Fit.take {s : Int} {l : List Int} (h : Fit s l) : ∀ y ∈ (M.rk (rs s l.sum l)).take (lf s l.sum l).toNat, 0 ≤ y ∧ y < (qs s l.sum l).length := by
  intro y hy
  have := h.rk.1.mem_iff.1 (List.mem_of_mem_take hy)
  rw [mem_idx] at this
  simpa [qs] using this
theorem split_divide.eq {s : Int} {l : List Int} (h : Fit s l) : Ev (fun k => split_divide.f k s l.sum l) (pos s l) := by
  have g1 : (0 : Int) ≤ (l.length : Int) := by omega
  have g2 : (l.length : Int).toNat ≤ 35184372088832 := by have := h.n; omega
  simp only [split_divide.f, if_pos g1, if_pos g2]
  have hn := h.n
  have lb := lf_bounds s l h.t0
  have hl : (rk (rs s l.sum l)).length = l.length := by rw [h.rk.1.length_eq, idx_length]
  have := split_divide.go0 s l.sum h.s0 h.s1 h.t0 h.t1 (pos s l) l [] l.length 0 s rfl (by simp) (by omega) h.w h.s1 (by have := h.s0; omega) (by
    refine Ev.bind (split_ranked.eq _ (by simp [rs]; omega)) ?_
    have g3 : 0 ≤ s - (qs s l.sum l).sum := lb.1
    have g4 : s - (qs s l.sum l).sum ≤ ((rk (rs s l.sum l)).length : Int) := by rw [hl]; exact lb.2.1
    simp only [List.nil_append, if_pos g3, if_pos g4, Option.bind_some]
    refine split_divide.go1 ((rk (rs s l.sum l)).take (lf s l.sum l).toNat) [] (qs s l.sum l) ((((rk (rs s l.sum l)).take (lf s l.sum l).toNat).length : Nat) : Int) 0 rfl (by simp) (by rw [List.length_take]; omega) h.take (fun v hv => ?_)
    have := qs_bounds h.s0 h.s1 h.t0 l h.w v hv
    have : ((rk (rs s l.sum l)).take (lf s l.sum l).toNat).length ≤ 200 := by simp; omega
    omega)
  simpa [qs, rs] using this
/-- The shares. -/
noncomputable def shr (a : Int) (l : List Int) : List Int := if a < 0 then (pos (-a) l).map (fun x => -x) else pos a l
theorem pos_bounds {s : Int} {l : List Int} (h : Fit s l) : ∀ v ∈ pos s l, 0 ≤ v ∧ v ≤ 2000000000000000 := by
  have key : ∀ (Y x : List Int) (b : Int), (∀ v ∈ x, 0 ≤ v ∧ v ≤ b) → (∀ y ∈ Y, 0 ≤ y ∧ y < x.length) → ∀ v ∈ inc x Y, 0 ≤ v ∧ v ≤ b + Y.length := by
    intro Y
    induction Y with
    | nil => intro x b h _ v hv; have := h v hv; simp; omega
    | cons y Y ih =>
      intro x b hx hy v hv
      have hy0 := hy y (by simp)
      have := ih (x.set y.toNat (rd x y + 1)) (b + 1) (fun w hw => by
        have hm := hx _ (rd_mem' x y hy0.1 hy0.2)
        rcases mem_set' hw with rfl | hw
        · omega
        · have := hx w hw; omega) (fun z hz => by rw [List.length_set]; exact hy z (by simp [hz])) v hv
      simp only [List.length_cons]; omega
  intro v hv
  have := key _ _ 1000000000000000 (qs_bounds h.s0 h.s1 h.t0 l h.w) h.take v hv
  have hl : (M.rk (rs s l.sum l)).length = l.length := by rw [h.rk.1.length_eq, idx_length]
  have hn := h.n
  have : ((M.rk (rs s l.sum l)).take (lf s l.sum l).toNat).length ≤ 200 := by simp; omega
  omega
theorem split_Shares.neg : ∀ (B A : List Int) (n i : Int), i = (A.length : Int) → n = (A.length : Int) + B.length → n < 1000000 → (∀ v ∈ B, 0 ≤ v ∧ v ≤ 2000000000000000) → Ev (fun k => split_Shares.l0 k (A ++ B) n i) (A ++ B.map (fun x => -x), 0)
  | [], A, n, i, hi, hn, hs, hB => by
    refine Ev.succ ?_
    have g : ¬ i < n := by simp at hn; omega
    simp only [split_Shares.l0, if_neg g]
    simpa using Ev.const _
  | x :: B, A, n, i, hi, hn, hs, hB => by
    simp only [List.length_cons] at hn
    have g : i < n := by omega
    have g1 : 0 ≤ i := by omega
    have g2 : i < ((A ++ x :: B).length : Int) := by simp; omega
    have r := rd_at A x B i hi
    have hx := hB x (by simp)
    have e : wrap64 (i + 1) = i + 1 := w64 (by omega) (by omega)
    have e2 : wrap64 (-x) = -x := w64 (by omega) (by omega)
    refine Ev.succ ?_
    simp only [split_Shares.l0, if_pos g, if_pos g1, if_pos g2, r, e, e2, set_at A x (-x) B i hi]
    have ih := split_Shares.neg B (A ++ [-x]) n (i + 1) (by simp; omega) (by simp; omega) hs (fun z hz => hB z (by simp [hz]))
    simpa using ih
theorem shErr_le {a : Int} {l : List Int} : shErr a l = 0 → Fit (if a < 0 then -a else a) l := by
  intro h
  unfold shErr at h
  split at h
  · omega
  · split at h
    · omega
    · split at h
      · omega
      · split at h
        · omega
        · split at h
          · omega
          · rename_i h1 h2 h3 h4 h5
            have h3' : ∀ x ∈ l, 0 ≤ x := fun x hx => by
              have : ¬ x < 0 := fun k => h3 ⟨x, hx, k⟩
              omega
            have := sum_nonneg l h3'
            exact ⟨by split <;> omega, by split <;> omega, h3', by omega, by omega, by omega⟩
theorem split_Shares.eq {a : Int} {l : List Int} (hl : l.length < 100000000000000) (hw : ∀ x ∈ l, x ≤ 9223372036854775807) : Ev (fun k => split_Shares.f k a l) (if shErr a l = 0 then shr a l else [], shErr a l) := by
  by_cases c1 : l.length > 200
  · have c1' : (l.length : Int) > 200 := by omega
    have : shErr a l = 9 := by unfold shErr; rw [if_pos c1]
    rw [this]
    simp only [split_Shares.f, if_pos c1']
    exact Ev.const _
  · have c1' : ¬ (l.length : Int) > 200 := by omega
    have J : ∀ b, b = (decide (a > 1000000000000000 ∨ a < -1000000000000000)) → Ev (fun k => split_Shares.j0 k a l b) (if shErr a l = 0 then shr a l else [], shErr a l) := by
      intro b hb
      subst hb
      refine Ev.succ ?_
      by_cases c2 : a > 1000000000000000 ∨ a < -1000000000000000
      · have : shErr a l = 4 := by unfold shErr; rw [if_neg c1, if_pos c2]
        rw [this]
        simp only [split_Shares.j0, decide_eq_true c2, if_true]
        exact Ev.const _
      · simp only [split_Shares.j0, decide_eq_false c2, Bool.false_eq_true, if_false]
        have T := split_total.eq l (by omega) hw
        refine Ev.bind T ?_
        by_cases c3 : ∃ x ∈ l, x < 0
        · have : shErr a l = 2 := by unfold shErr; rw [if_neg c1, if_neg c2, if_pos c3]
          rw [this]
          simp only [if_pos c3]
          exact Ev.const _
        · simp only [if_neg c3, sumFrom_zero]
          by_cases c4 : l.sum > 1000000000000000
          · have : shErr a l = 4 := by unfold shErr; rw [if_neg c1, if_neg c2, if_neg c3, if_pos c4]
            rw [this]
            simp only [if_pos c4]
            exact Ev.const _
          · by_cases c5 : l.sum = 0
            · have : shErr a l = 2 := by unfold shErr; rw [if_neg c1, if_neg c2, if_neg c3, if_neg c4, if_pos c5]
              rw [this]
              simp only [if_neg c4, if_pos c5]
              exact Ev.const _
            · have z : shErr a l = 0 := by unfold shErr; rw [if_neg c1, if_neg c2, if_neg c3, if_neg c4, if_neg c5]
              have F := shErr_le z
              rw [z]
              simp only [if_neg c4, if_neg c5, if_true]
              unfold shr
              by_cases c6 : a < 0
              · simp only [if_pos c6] at F ⊢
                rw [w64 (n := -a) (by omega) (by omega)]
                refine Ev.bind (split_divide.eq F) ?_
                have hlen : ((pos (-a) l).length : Int) ≤ 200 := by
                  unfold pos; rw [inc_length]; simp [qs]; omega
                have := split_Shares.neg (pos (-a) l) [] (pos (-a) l).length 0 rfl (by simp) (by omega) (pos_bounds F)
                simpa using this
              · simp only [if_neg c6] at F ⊢
                exact Ev.bind (split_divide.eq F) (Ev.const _)
    by_cases c2 : a > 1000000000000000
    · simp only [split_Shares.f, if_neg c1', if_pos c2]
      exact J true (by simp [c2])
    · simp only [split_Shares.f, if_neg c1', if_neg c2]
      exact J _ (by simp [c2])
/-! The specification. -/
theorem accountingref08_Shares.neg (a : Int) (ha : a < 0) : ∀ (B A : List Int) (i : Int), i = (A.length : Int) → (A ++ B).length < 1000000 → (∀ v ∈ B, 0 ≤ v ∧ v ≤ 2000000000000000) → Ev (fun k => accountingref08_Shares.l3 k a (A ++ B) i) (A ++ B.map (fun x => -x), 0)
  | [], A, i, hi, hs, hB => by
    refine Ev.succ ?_
    have g : ¬ i < ((A ++ []).length : Int) := by simp; omega
    simp only [accountingref08_Shares.l3, if_neg g]
    simpa using Ev.const _
  | x :: B, A, i, hi, hs, hB => by
    simp only [List.length_append, List.length_cons] at hs
    have g1 : 0 ≤ i := by omega
    have g2 : i < ((A ++ x :: B).length : Int) := by simp; omega
    have r := rd_at A x B i hi
    have hx := hB x (by simp)
    have e : wrap64 (i + 1) = i + 1 := w64 (by omega) (by omega)
    have e2 : wrap64 (-x) = -x := w64 (by omega) (by omega)
    refine Ev.succ ?_
    simp only [accountingref08_Shares.l3, if_pos ha, if_pos g1, if_pos g2, r, e, e2, set_at A x (-x) B i hi]
    have ih := accountingref08_Shares.neg a ha B (A ++ [-x]) (i + 1) (by simp; omega) (by simp only [List.length_append, List.length_cons, List.length_nil]; omega) (fun z hz => hB z (by simp [hz]))
    simpa using ih
/-- The largest of the remainders that are left is found. -/
theorem accountingref08_Shares.best (a : Int) (r P R Y1 Z2 : List Int) (z : Int) (left : Int) (X : List Int × Int) (hn : r.length < 1000) (hr : ∀ x ∈ r, 0 ≤ x) (hRl : R.length = r.length) (hPl : P.length = r.length) (hZ : (Y1 ++ z :: Z2).Perm (idx r.length)) (hS : (Y1 ++ z :: Z2).Pairwise (rOrd r))
    (hR : ∀ i : Int, 0 ≤ i → i < r.length → rd R i = if i ∈ Y1 then -1 else rd r i)
    (hX : Ev (fun k => accountingref08_Shares.l1 k a (P.set z.toNat (wrap64 (rd P z + 1))) (R.set z.toNat (-1)) (wrap64 (left - 1))) X) :
    ∀ (d : Nat) (b i : Int), i + d = r.length → 0 ≤ i → (z < i ∨ z = 0 → b = z) → (¬ (z < i ∨ z = 0) → 0 ≤ b ∧ b < z) → Ev (fun k => accountingref08_Shares.l2 k a P R left b i) X := by
  have hz : 0 ≤ z ∧ z < r.length := (mem_idx _ _).1 (hZ.mem_iff.1 (by simp))
  have nd : (Y1 ++ z :: Z2).Nodup := List.Pairwise.imp (S := fun x y => x ≠ y) (fun {x y} h e => (rOrd.tot r).irr x (by rw [← e] at h; exact h)) hS
  have hzY : z ∉ Y1 := fun h => by
    have := (List.nodup_append.1 nd).2.2 z h z (by simp)
    exact this rfl
  have rz : rd R z = rd r z := by rw [hR z hz.1 hz.2, if_neg hzY]
  have rz0 : 0 ≤ rd r z := hr _ (rd_mem' r z hz.1 hz.2)
  have wh : ∀ i : Int, 0 ≤ i → i < r.length → i ∈ Y1 ∨ i = z ∨ (i ∉ Y1 ∧ rOrd r z i) := fun i h0 h1 => by
    have := hZ.mem_iff.2 ((mem_idx r.length i).2 ⟨h0, h1⟩)
    rcases List.mem_append.1 this with h | h
    · exact .inl h
    · rcases List.mem_cons.1 h with h | h
      · exact .inr (.inl h)
      · refine .inr (.inr ⟨fun k => ?_, ?_⟩)
        · exact (List.nodup_append.1 nd).2.2 i k i (by simp [h]) rfl
        · exact (List.pairwise_cons.1 (List.pairwise_append.1 hS).2.1).1 i h
  intro d
  induction d with
  | zero =>
    intro b i hd hi h1 h2
    have hb : b = z := h1 (by omega)
    subst hb
    refine Ev.succ ?_
    have g : ¬ i < (R.length : Int) := by omega
    have g2 : b < (P.length : Int) := by omega
    have g3 : b < (R.length : Int) := by omega
    simp only [accountingref08_Shares.l2, if_neg g, if_pos hz.1, if_pos g2, if_pos g3]
    exact hX
  | succ d ih =>
    intro b i hd hi h1 h2
    have g : i < (R.length : Int) := by omega
    have g1 : 0 ≤ b := by
      by_cases c : z < i ∨ z = 0
      · rw [h1 c]; exact hz.1
      · exact (h2 c).1
    have g2 : b < (R.length : Int) := by
      by_cases c : z < i ∨ z = 0
      · rw [h1 c]; omega
      · have := (h2 c).2; omega
    have e : wrap64 (i + 1) = i + 1 := w64 (by omega) (by omega)
    refine Ev.succ ?_
    simp only [accountingref08_Shares.l2, if_pos g, if_pos hi, if_pos g1, if_pos g2, e]
    by_cases c : z < i ∨ z = 0
    · have hb := h1 c
      subst hb
      have ng : ¬ rd R i > rd R b := by
        rw [rz, hR i hi (by omega)]
        rcases wh i hi (by omega) with w | w | w
        · rw [if_pos w]; omega
        · subst w; rw [if_neg hzY]; omega
        · rw [if_neg w.1]
          have := w.2
          unfold rOrd at this
          omega
      simp only [if_neg ng]
      exact ih b (i + 1) (by omega) (by omega) (fun _ => rfl) (fun k => by omega)
    · have hb := h2 c
      by_cases ci : i = z
      · subst ci
        have yg : rd R i > rd R b := by
          rw [rz, hR b hb.1 (by omega)]
          rcases wh b hb.1 (by omega) with w | w | w
          · rw [if_pos w]; omega
          · omega
          · rw [if_neg w.1]
            have := w.2
            unfold rOrd at this
            omega
        simp only [if_pos yg]
        exact ih i (i + 1) (by omega) (by omega) (fun _ => rfl) (fun k => by omega)
      · by_cases yg : rd R i > rd R b
        · simp only [if_pos yg]
          exact ih i (i + 1) (by omega) (by omega) (fun k => by omega) (fun k => by omega)
        · simp only [if_neg yg]
          exact ih b (i + 1) (by omega) (by omega) (fun k => by omega) (fun k => by omega)
theorem accountingref08_Shares.pick (a : Int) (r : List Int) (X : List Int × Int) (hn : r.length < 1000) (hr : ∀ x ∈ r, 0 ≤ x) : ∀ (Y2 Y1 Z3 P R : List Int) (left : Int), R.length = r.length → P.length = r.length → (Y1 ++ Y2 ++ Z3).Perm (idx r.length) → (Y1 ++ Y2 ++ Z3).Pairwise (rOrd r) → left = (Y2.length : Int) →
    (∀ i : Int, 0 ≤ i → i < r.length → rd R i = if i ∈ Y1 then -1 else rd r i) → (∀ v ∈ P, 0 ≤ v ∧ v + Y2.length ≤ 9000000000000000000) → Ev (fun k => accountingref08_Shares.l3 k a (inc P Y2) 0) X → Ev (fun k => accountingref08_Shares.l1 k a P R left) X
  | [], Y1, Z3, P, R, left, hRl, hPl, hZ, hS, hl, hR, hP, hX => by
    refine Ev.succ ?_
    have g : ¬ left > 0 := by simp at hl; omega
    simp only [accountingref08_Shares.l1, if_neg g]
    exact hX
  | z :: Y2, Y1, Z3, P, R, left, hRl, hPl, hZ, hS, hl, hR, hP, hX => by
    simp only [List.length_cons] at hl hP
    have g : left > 0 := by omega
    have hZ' : (Y1 ++ z :: (Y2 ++ Z3)).Perm (idx r.length) := by simpa using hZ
    have hS' : (Y1 ++ z :: (Y2 ++ Z3)).Pairwise (rOrd r) := by simpa using hS
    have hz : 0 ≤ z ∧ z < r.length := (mem_idx _ _).1 (hZ'.mem_iff.1 (by simp))
    have e : wrap64 (left - 1) = left - 1 := w64 (by
      omega) (by
      have : (Y1 ++ z :: Y2 ++ Z3).length = r.length := by rw [hZ.length_eq, idx_length]
      simp only [List.length_append, List.length_cons] at this
      omega)
    have hm := hP _ (rd_mem' P z hz.1 (by omega))
    have e2 : wrap64 (rd P z + 1) = rd P z + 1 := w64 (by omega) (by omega)
    refine Ev.succ ?_
    simp only [accountingref08_Shares.l1, if_pos g]
    refine accountingref08_Shares.best a r P R Y1 (Y2 ++ Z3) z left X hn hr hRl hPl hZ' hS' hR ?_ r.length 0 0 (by omega) (by omega) (fun k => by omega) (fun k => by omega)
    rw [e, e2]
    refine accountingref08_Shares.pick a r X hn hr Y2 (Y1 ++ [z]) Z3 _ _ (left - 1) (by simpa using hRl) (by simpa using hPl) (by simpa using hZ) (by simpa using hS) (by omega) (fun i h0 h1 => ?_) (fun v hv => ?_) hX
    · rw [rd_set R z i _ hz.1 (by omega) h0, hR i h0 h1]
      by_cases c : i = z
      · subst c; simp
      · simp [c]
    · rcases mem_set' hv with rfl | hv
      · omega
      · have := hP v hv; omega
theorem accountingref08_Shares.go0 (a s t : Int) (h0 : 0 ≤ s) (h1 : s ≤ 1000000000000000) (h4 : 0 < t) (ht : t ≤ 1000000000000000) (X : List Int × Int) : ∀ (W2 W1 : List Int) (i left : Int), i = (W1.length : Int) → (W1 ++ W2).length ≤ 1000 → (∀ w ∈ W2, 0 ≤ w ∧ w ≤ t) → left ≤ 1000000000000000 → -1000000000000000 * i ≤ left →
    Ev (fun k => accountingref08_Shares.l1 k a (qs s t (W1 ++ W2)) (rs s t (W1 ++ W2)) (left - (qs s t W2).sum)) X →
    Ev (fun k => accountingref08_Shares.l0 k a (W1 ++ W2) t s (qs s t W1 ++ List.replicate W2.length 0) (rs s t W1 ++ List.replicate W2.length 0) left i) X
  | [], W1, i, left, hi, hs, hw, l1, l2, hX => by
    refine Ev.succ ?_
    have g : ¬ i < ((W1 ++ []).length : Int) := by simp; omega
    simp only [accountingref08_Shares.l0, if_neg g]
    simpa [qs, rs] using hX
  | w :: W2, W1, i, left, hi, hs, hw, l1, l2, hX => by
    simp only [List.length_append, List.length_cons] at hs
    have hw0 := hw w (by simp)
    have g1 : 0 ≤ i := by omega
    have g2 : i < ((W1 ++ w :: W2).length : Int) := by simp; omega
    have r := rd_at W1 w W2 i hi
    obtain ⟨m1, m2, m3⟩ := mdv_down h0 h1 hw0.1 hw0.2 h4
    have M := accountingref02_MulDiv.eq (a := s) (b := w) (c := t) 1 (by unfold inI; omega) (by unfold inI; omega) (by unfold inI; omega)
    have D := accountingref02_Mod.eq (a := s) (b := w) (c := t) (by unfold inI; omega) (by unfold inI; omega) (by unfold inI; omega)
    rw [m1] at M
    rw [modv_down h4] at D
    have e : wrap64 (i + 1) = i + 1 := w64 (by omega) (by omega)
    have e2 : wrap64 (left - s * w / t) = left - s * w / t := w64 (by omega) (by omega)
    have lq : (qs s t W1).length = W1.length := by simp [qs]
    have lr : (rs s t W1).length = W1.length := by simp [rs]
    have g3 : i < ((qs s t W1 ++ List.replicate (w :: W2).length (0 : Int)).length : Int) := by simp [lq]; omega
    have g4 : i < ((rs s t W1 ++ List.replicate (w :: W2).length (0 : Int)).length : Int) := by simp [lr]; omega
    refine Ev.succ ?_
    simp only [accountingref08_Shares.l0, if_pos g1, if_pos g2, r]
    refine Ev.bind M ?_
    refine Ev.bind D ?_
    have s1 : (qs s t W1 ++ List.replicate (w :: W2).length (0 : Int)).set i.toNat (s * w / t) = qs s t (W1 ++ [w]) ++ List.replicate W2.length 0 := by
      rw [List.length_cons, List.replicate_succ, set_at _ _ _ _ _ (by rw [lq]; exact hi), qs_snoc]; simp
    have s2 : (rs s t W1 ++ List.replicate (w :: W2).length (0 : Int)).set i.toNat (s * w % t) = rs s t (W1 ++ [w]) ++ List.replicate W2.length 0 := by
      rw [List.length_cons, List.replicate_succ, set_at _ _ _ _ _ (by rw [lr]; exact hi), rs_snoc]; simp
    have s3 : rd (qs s t (W1 ++ [w]) ++ List.replicate W2.length 0) i = s * w / t := by
      rw [qs_snoc, List.append_assoc]; exact rd_at _ _ _ _ (by rw [lq]; exact hi)
    simp only [if_pos g3, if_pos g4, s1, s2, Option.bind_some, s3, e, e2]
    have ih := accountingref08_Shares.go0 a s t h0 h1 h4 ht X W2 (W1 ++ [w]) (i + 1) (left - s * w / t) (by simp; omega) (by simp only [List.length_append, List.length_cons, List.length_nil]; omega) (fun z hz => hw z (by simp [hz])) (by omega) (by omega) (by
      have e5 : (qs s t (w :: W2)).sum = s * w / t + (qs s t W2).sum := by simp [qs]
      have e6 : left - s * w / t - (qs s t W2).sum = left - (qs s t (w :: W2)).sum := by omega
      rw [e6]
      simpa using hX)
    simpa using ih
theorem accountingref08_Shares.j0_eq {a s : Int} {l : List Int} (h : Fit s l) (X : List Int × Int) (hX : Ev (fun k => accountingref08_Shares.l3 k a (pos s l) 0) X) : Ev (fun k => accountingref08_Shares.j0 k a l l.sum s) X := by
  have g1 : (0 : Int) ≤ (l.length : Int) := by omega
  have g2 : (l.length : Int).toNat ≤ 35184372088832 := by have := h.n; omega
  have hn := h.n
  have lb := lf_bounds s l h.t0
  have hl : (rk (rs s l.sum l)).length = l.length := by rw [h.rk.1.length_eq, idx_length]
  refine Ev.succ ?_
  simp only [accountingref08_Shares.j0, if_pos g1, if_pos g2]
  have hrl : (rs s l.sum l).length = l.length := by simp [rs]
  have hql : (qs s l.sum l).length = l.length := by simp [qs]
  have := accountingref08_Shares.go0 a s l.sum h.s0 h.s1 h.t0 h.t1 X l [] 0 s rfl (by simp; omega) h.w h.s1 (by have := h.s0; omega) (by
    have hk := h.rk
    have he : rk (rs s l.sum l) = (rk (rs s l.sum l)).take (lf s l.sum l).toNat ++ (rk (rs s l.sum l)).drop (lf s l.sum l).toNat := (List.take_append_drop _ _).symm
    refine accountingref08_Shares.pick a (rs s l.sum l) X (by omega) (fun x hx => (rs_bounds s l.sum h.t0 l x hx).1) ((rk (rs s l.sum l)).take (lf s l.sum l).toNat) [] ((rk (rs s l.sum l)).drop (lf s l.sum l).toNat) _ _ _ rfl (by simp [qs, rs]) ?_ ?_ ?_ (fun i _ _ => by simp) (fun v hv => ?_) hX
    · rw [List.nil_append, ← he, hrl]; exact hk.1
    · rw [List.nil_append, ← he]; exact hk.2
    · rw [List.length_take, hl]
      show lf s l.sum l = _
      omega
    · have := qs_bounds h.s0 h.s1 h.t0 l h.w v hv
      have : ((rk (rs s l.sum l)).take (lf s l.sum l).toNat).length ≤ 200 := by simp; omega
      omega)
  simpa [qs, rs] using this
theorem accountingref08_total.eq {a : Int} {l : List Int} (hl : l.length < 100000000000000) (hw : ∀ x ∈ l, x ≤ 9223372036854775807) : Ev (fun k => accountingref08_total.f k a l) (if shErr a l = 0 then l.sum else 0, shErr a l) := by
  by_cases c1 : l.length > 200
  · have c1' : (l.length : Int) > 200 := by omega
    have : shErr a l = 9 := by unfold shErr; rw [if_pos c1]
    rw [this]
    simp only [accountingref08_total.f, if_pos c1']
    exact Ev.const _
  · have c1' : ¬ (l.length : Int) > 200 := by omega
    have J : ∀ b, b = (decide (a > 1000000000000000 ∨ a < -1000000000000000)) → Ev (fun k => accountingref08_total.j0 k l b) (if shErr a l = 0 then l.sum else 0, shErr a l) := by
      intro b hb
      subst hb
      refine Ev.succ ?_
      by_cases c2 : a > 1000000000000000 ∨ a < -1000000000000000
      · have : shErr a l = 4 := by unfold shErr; rw [if_neg c1, if_pos c2]
        rw [this]
        simp only [accountingref08_total.j0, decide_eq_true c2, if_true]
        exact Ev.const _
      · simp only [accountingref08_total.j0, decide_eq_false c2, Bool.false_eq_true, if_false]
        have T := accountingref08_total.go0 l hw (by omega) l [] 0 rfl rfl (by simp)
        have e : (if ∃ x ∈ l, x < 0 then ((0 : Int), (2 : Int)) else sumFrom 0 l) = (if shErr a l = 0 then l.sum else 0, shErr a l) := by
          rw [sumFrom_zero]
          unfold shErr
          rw [if_neg c1, if_neg c2]
          by_cases c3 : ∃ x ∈ l, x < 0
          · simp [if_pos c3]
          · simp only [if_neg c3]
            by_cases c4 : l.sum > 1000000000000000
            · simp [if_pos c4]
            · simp only [if_neg c4]
              by_cases c5 : l.sum = 0
              · simp [if_pos c5]
              · simp [if_neg c5]
        rw [e] at T
        exact T
    by_cases c2 : a > 1000000000000000
    · simp only [accountingref08_total.f, if_neg c1', if_pos c2]
      exact J true (by simp [c2])
    · simp only [accountingref08_total.f, if_neg c1', if_neg c2]
      exact J _ (by simp [c2])
theorem accountingref08_Shares.eq {a : Int} {l : List Int} (hl : l.length < 100000000000000) (hw : ∀ x ∈ l, x ≤ 9223372036854775807) : Ev (fun k => accountingref08_Shares.f k a l) (if shErr a l = 0 then shr a l else [], shErr a l) := by
  unfold accountingref08_Shares.f
  refine Ev.bind (accountingref08_total.eq hl hw) ?_
  by_cases z : shErr a l = 0
  · have F := shErr_le z
    simp only [if_pos z]
    have hb : -1000000000000000 ≤ a ∧ a ≤ 1000000000000000 := by
      have := F.s0; have := F.s1
      split at F <;> omega
    unfold shr
    by_cases c6 : a < 0
    · simp only [if_pos c6] at F ⊢
      rw [w64 (n := -a) (by omega) (by omega)]
      refine accountingref08_Shares.j0_eq F _ ?_
      have hlen : ((pos (-a) l).length : Int) ≤ 200 := by
        have := F.n
        unfold pos; rw [inc_length]; simp [qs]; omega
      have := accountingref08_Shares.neg a c6 (pos (-a) l) [] 0 rfl (by simp; omega) (pos_bounds F)
      rw [z]
      simpa using this
    · simp only [if_neg c6] at F ⊢
      refine accountingref08_Shares.j0_eq F _ (Ev.succ ?_)
      rw [z]
      by_cases c7 : (0 : Int) < ((pos a l).length : Int)
      · simp only [accountingref08_Shares.l3, if_pos c7, if_neg c6]; exact Ev.const _
      · simp only [accountingref08_Shares.l3, if_neg c7]; exact Ev.const _
  · simp only [if_neg z]
    exact Ev.const _
end Go.Proofs.Ytikglhfeookhaaa.M
end
section
/- The examples of chapter 08. -/
namespace Go.Proofs.Ytikglhfeookhaaa.M
open Go.RowKit Go.Proofs.YtikglhfeookhaaaW.PrintWords
theorem accountinglaw08_lives.true : Ev (fun k => accountinglaw08_lives.f k) true :=
  Ev.mono ⟨40, by decide +kernel⟩ accountinglaw08_lives.mono
end Go.Proofs.Ytikglhfeookhaaa.M
end
section
-- Written by mprint.py (a program of this session) over the kit's print.
namespace Go.Proofs.Ytikglhfeookhaaa.M
open Go.RowKit Go.Proofs.YtikglhfeookhaaaW.PrintWords Go.Proofs.YtikglhfeookhaaaW.PrintLast Go.Proofs.YtikglhfeookhaaaW.PrintMore
attribute [local go_sem] max2_int min2_int max_two min_two max_three min_three max_four min_four   -- for this text's walks alone
set_option linter.unusedVariables false
set_option linter.unusedSimpArgs false

/-! ### accountinglaw08_sum: function 18 -/
def accountinglaw08_sum.l0 : Nat → List Int → Int → Int → Option (Int)
  | 0, _, _, _ => none
  | k + 1, x0, x3, x4 => if x4 < (x0.length : Int) then (if 0 ≤ x4 then (accountinglaw08_sum.l0 k x0 (wrap64 (x3 + (rd x0 x4))) (wrap64 (x4 + 1))) else (none)) else (some x3)
def accountinglaw08_sum.f (k : Nat) (l0 : List Int) : Option (Int) := accountinglaw08_sum.l0 k l0 0 0
theorem accountinglaw08_sum.mono_l : ∀ k, (∀ y0 y1 y2, LeO (accountinglaw08_sum.l0 k y0 y1 y2) (accountinglaw08_sum.l0 (k + 1) y0 y1 y2))
  | 0 => fun _ _ _ r h => by simp [accountinglaw08_sum.l0] at h
  | k + 1 => by
    have ih0 := accountinglaw08_sum.mono_l k
    · intro y0 y1 y2
      unfold accountinglaw08_sum.l0
      repeat' first
      | (with_reducible exact ih0 _ _ _)
      | (with_reducible exact LeO.refl _)
      | (with_reducible exact LeO.none _)
      | (with_reducible refine LeO.ite ?_ ?_)
      | (with_reducible refine LeO.bind ?_ (fun _ => ?_))
      | exact ih0 _ _ _
      | exact LeO.none _
      | refine LeO.ite ?_ ?_
      | refine LeO.bind ?_ (fun _ => ?_)
theorem accountinglaw08_sum.mono : ∀ a0 k, LeO (accountinglaw08_sum.f k a0) (accountinglaw08_sum.f (k + 1) a0) := by
 intro a0 k
 have ih0 := accountinglaw08_sum.mono_l k
 unfold accountinglaw08_sum.f
 repeat' first
   | (with_reducible exact ih0 _ _ _)
   | (with_reducible exact LeO.refl _)
   | (with_reducible exact LeO.none _)
   | (with_reducible refine LeO.ite ?_ ?_)
   | (with_reducible refine LeO.bind ?_ (fun _ => ?_))
   | exact ih0 _ _ _
   | exact LeO.none _
   | refine LeO.ite ?_ ?_
   | refine LeO.bind ?_ (fun _ => ?_)
set_option maxHeartbeats 8000000 in
set_option maxRecDepth 100000 in
theorem accountinglaw08_sum.calls (k : Nat) (A0 : Option Addr) (c0 : Nat) (l0 : List Int) (r : Int) (w : World) (hr0 : Kd.C (Kd.int .i64) w A0 l0.length l0) (hc0 : l0.length ≤ c0) (h : accountinglaw08_sum.f k l0 = some r) :
    Calls Try.prog 18 #[.slice A0 l0.length c0] w fun e w' => e = .returned (.int .i64 r) ∧ Drawn0 w w' := by
 have hu3 := Try.underlying3
 have HR0 := Aside0.mk hr0
 have HC0 := Aside0.mk hc0
 clear hr0 hc0
 have H : (accountinglaw08_sum.l0 k l0 0 0) = some r := h
 clear h
 have H' := Aside0.mk H
 clear H
 go_enter Try.func18, Try.ntmps18
 go_wp2
 go_loopg [3, 4] k (fun kq v3 v4 w' => ∃ (x3_1 : Int) (x4_1 : Int), v3 = .int .i64 x3_1 ∧ v4 = .int .i64 x4_1 ∧ Aside0 (accountinglaw08_sum.l0 kq l0 x3_1 x4_1 = some r) ∧ Aside0 (kq ≤ k) ∧ Drawn0 w w')
 case atStart => exact ⟨(0), (0), (by first | rfl | (simp; done) | (simp [*]; done)), (by first | rfl | (simp; done) | (simp [*]; done)), H', ⟨Nat.le_refl _⟩, by repeat (first | exact Drawn0.refl _ | apply Drawn0.step)⟩
 case round =>
  clear H'
  try clear c1
  obtain ⟨x3_1, x4_1, rfl, rfl, HA, HK1, ⟨m1, rfl⟩⟩ := hrel
  cases gk with
  | zero => exact absurd HA.out (by simp [accountinglaw08_sum.l0])
  | succ k1 =>
   have H := HA.out
   clear HA
   simp only [accountinglaw08_sum.l0] at H
   by_cases c2 : x4_1 < (l0.length : Int)
   ·rw [if_pos c2] at H
    have c2b0 : decide (x4_1 < (l0.length : Int)) = true := decide_eq_true c2
    clear c2
    by_cases c3 : 0 ≤ x4_1
    ·rw [if_pos c3] at H
     have c3b0 : decide (0 ≤ x4_1) = true := decide_eq_true c3
     clear c3
     have H' := Aside0.mk H
     clear H
     have p101 : 0 ≤ (x4_1 : Int) := of_decide_eq_true (by first | (with_reducible assumption) | assumption)
     have q101 : x4_1 < (l0.length : Int) := of_decide_eq_true (by first | (with_reducible assumption) | assumption)
     obtain ⟨ad101, e101, hx101_0⟩ := Kd.at_int HR0.out x4_1 p101 q101
     cases e101
     replace p101 := eq_true p101
     replace q101 := eq_true q101
     go_wp2
     go_roundg k1
     case measure => have := HK1.out; omega
     case rel => exact ⟨(wrap64 (x3_1 + (rd l0 x4_1))), (wrap64 (x4_1 + 1)), (by first | rfl | (simp; done) | (simp [*]; done)), (by first | rfl | (simp; done) | (simp [*]; done)), H', ⟨by have := HK1.out; omega⟩, by repeat (first | exact Drawn0.refl _ | apply Drawn0.step)⟩
    ·rw [if_neg c3] at H
     exact absurd H (by simp)
   ·rw [if_neg c2] at H
    have c2b0 : decide (x4_1 < (l0.length : Int)) = false := decide_eq_false c2
    clear c2
    obtain rfl := Option.some.inj H
    go_wp2
    go_ret
    exact ⟨by first | rfl | (simp; done) | (simp [*]; done), by repeat (first | exact Drawn0.refl _ | apply Drawn0.step)⟩

end Go.Proofs.Ytikglhfeookhaaa.M
end
section
-- Written by mprint.py (a program of this session) over the kit's print.
namespace Go.Proofs.Ytikglhfeookhaaa.M
open Go.RowKit Go.Proofs.YtikglhfeookhaaaW.PrintWords Go.Proofs.YtikglhfeookhaaaW.PrintLast Go.Proofs.YtikglhfeookhaaaW.PrintMore
attribute [local go_sem] max2_int min2_int max_two min_two max_three min_three max_four min_four   -- for this text's walks alone
set_option linter.unusedVariables false
set_option linter.unusedSimpArgs false

/-! ### accountinglaw08_many: function 11 -/
def accountinglaw08_many.f (l0 : List Int) : Option (Bool) := some (decide ((l0.length : Int) > 260))
set_option maxHeartbeats 8000000 in
set_option maxRecDepth 100000 in
theorem accountinglaw08_many.calls (A0 : Option Addr) (c0 : Nat) (l0 : List Int) (r : Bool) (w : World) (hr0 : Kd.C (Kd.int .i64) w A0 l0.length l0) (hc0 : l0.length ≤ c0) (h : accountinglaw08_many.f l0 = some r) :
    Calls Try.prog 11 #[.slice A0 l0.length c0] w fun e w' => e = .returned (.bool r) ∧ Drawn0 w w' := by
 have HR0 := Aside0.mk hr0
 have HC0 := Aside0.mk hc0
 clear hr0 hc0
 have H : (some (decide ((l0.length : Int) > 260))) = some r := h
 clear h
 obtain rfl := Option.some.inj H
 go_enter Try.func11, Try.ntmps11
 go_wp2
 go_ret
 exact ⟨by first | rfl | (simp; done) | (simp [*]; done), by repeat (first | exact Drawn0.refl _ | apply Drawn0.step)⟩

end Go.Proofs.Ytikglhfeookhaaa.M
end
section
/- What the laws of chapter 08 share: equal lists, sums, equal parts. -/
namespace Go.Proofs.Ytikglhfeookhaaa.M
open Go.RowKit Go.Proofs.YtikglhfeookhaaaW.PrintWords Dv
set_option linter.unusedVariables false
theorem wfb {x : Int} (h : (Lit.int .i64 x).wf = true) : -9223372036854775808 ≤ x ∧ x ≤ 9223372036854775807 := by
  have e1 : IntKind.i64.min = -9223372036854775808 := by decide
  have e2 : IntKind.i64.max = 9223372036854775807 := by decide
  simp [Lit.wf, e1, e2] at h
  exact h
theorem many_eq (l : List Int) : accountinglaw08_many.f l = some (decide (l.length > 260)) := by
  unfold accountinglaw08_many.f
  congr 1
  by_cases h : l.length > 260
  · rw [decide_eq_true h, decide_eq_true (by omega)]
  · rw [decide_eq_false h, decide_eq_false (by omega)]
theorem accountingref08_Same.go (L : List Int) (hs : L.length < 100000000000000) : ∀ (d : Nat) (i : Int), i + d = L.length → 0 ≤ i → Ev (fun k => accountingref08_Same.l0 k L L i) true
  | 0, i, hi, h0 => by
    refine Ev.succ ?_
    have g : ¬ i < (L.length : Int) := by omega
    simp only [accountingref08_Same.l0, if_neg g]
    exact Ev.const _
  | d + 1, i, hi, h0 => by
    refine Ev.succ ?_
    have g : i < (L.length : Int) := by omega
    have e : wrap64 (i + 1) = i + 1 := w64 (by omega) (by omega)
    simp only [accountingref08_Same.l0, if_pos g, if_pos h0, if_true, e]
    exact accountingref08_Same.go L hs d (i + 1) (by omega) (by omega)
theorem accountingref08_Same.self (L : List Int) (hs : L.length < 100000000000000) : Ev (fun k => accountingref08_Same.f k L L) true := by
  simp only [accountingref08_Same.f, if_true]
  exact accountingref08_Same.go L hs L.length 0 (by omega) (by omega)
/-- The chapter's equal parts. -/
noncomputable def evn (a n : Int) : List Int × Int := if n < 1 then ([], 2) else if n > 200 then ([], 9) else (if shErr a (List.replicate n.toNat 1) = 0 then shr a (List.replicate n.toNat 1) else [], shErr a (List.replicate n.toNat 1))
theorem split_Even.eq (a n : Int) : Ev (fun k => split_Even.f k a n) (evn a n) := by
  unfold evn
  by_cases c1 : n < 1
  · simp only [split_Even.f, if_pos c1]; exact Ev.const _
  · by_cases c2 : n > 200
    · simp only [split_Even.f, if_neg c1, if_pos c2]; exact Ev.const _
    · have r : slices_Repeat_int_int.f [1] n = some (List.replicate n.toNat 1) := by
        unfold slices_Repeat_int_int.f
        rw [if_pos ⟨rfl, by omega, by omega⟩]; rfl
      simp only [split_Even.f, if_neg c1, if_neg c2, r, Option.bind_some]
      refine Ev.bind (split_Shares.eq (by simp; omega) (fun x hx => ?_)) (Ev.const _)
      have := (List.mem_replicate.1 hx).2
      omega
theorem accountingref08_Even.go (a n : Int) (h0 : 1 ≤ n) (h1 : n ≤ 200) : ∀ (d i : Nat), (i : Int) + d = n → Ev (fun k => accountingref08_Even.l0 k a n (List.replicate i 1 ++ List.replicate d 0) i) (if shErr a (List.replicate n.toNat 1) = 0 then shr a (List.replicate n.toNat 1) else [], shErr a (List.replicate n.toNat 1))
  | 0, i, h => by
    refine Ev.succ ?_
    have g : ¬ (i : Int) < n := by omega
    obtain rfl : n = (i : Int) := by omega
    simp only [accountingref08_Even.l0, if_neg g, List.replicate_zero, List.append_nil, Int.toNat_natCast]
    refine Ev.bind (accountingref08_Shares.eq (by simp; omega) (fun x hx => ?_)) (Ev.const _)
    have := (List.mem_replicate.1 hx).2
    omega
  | d + 1, i, h => by
    refine Ev.succ ?_
    have g : (i : Int) < n := by omega
    have g1 : (0 : Int) ≤ i := by omega
    have g2 : (i : Int) < ((List.replicate i (1 : Int) ++ List.replicate (d + 1) 0).length : Int) := by simp; omega
    have e : wrap64 ((i : Int) + 1) = ((i + 1 : Nat) : Int) := by rw [w64 (by omega) (by omega)]; omega
    simp only [accountingref08_Even.l0, if_pos g, if_pos g1, if_pos g2, e]
    have s1 : (List.replicate i (1 : Int) ++ List.replicate (d + 1) 0).set (i : Int).toNat 1 = List.replicate (i + 1) 1 ++ List.replicate d 0 := by
      rw [List.replicate_succ (n := d), set_at _ _ _ _ _ (by simp)]
      rw [show List.replicate (i + 1) (1 : Int) = List.replicate i 1 ++ [1] by rw [List.replicate_succ']]
      simp
    rw [s1]
    exact accountingref08_Even.go a n h0 h1 d (i + 1) (by omega)
theorem accountingref08_Even.eq (a n : Int) : Ev (fun k => accountingref08_Even.f k a n) (evn a n) := by
  unfold evn
  by_cases c1 : n < 1
  · simp only [accountingref08_Even.f, if_pos c1]; exact Ev.const _
  · by_cases c2 : n > 200
    · simp only [accountingref08_Even.f, if_neg c1, if_pos c2]; exact Ev.const _
    · have g1 : 0 ≤ n := by omega
      have g2 : n.toNat ≤ 35184372088832 := by omega
      simp only [accountingref08_Even.f, if_neg c1, if_neg c2, if_pos g1, if_pos g2]
      have := accountingref08_Even.go a n (by omega) (by omega) n.toNat 0 (by omega)
      simpa using this
theorem accountinglaw08_sum.go (b : Int) (hb : 0 ≤ b) (hb2 : b ≤ 2000000000000000) : ∀ (B A : List Int) (s i : Int), i = (A.length : Int) → (A ++ B).length ≤ 1000 → (∀ v ∈ B, -b ≤ v ∧ v ≤ b) → -b * i ≤ s → s ≤ b * i → Ev (fun k => accountinglaw08_sum.l0 k (A ++ B) s i) (s + B.sum)
  | [], A, s, i, hi, hs, hB, h0, h1 => by
    refine Ev.succ ?_
    have g : ¬ i < ((A ++ []).length : Int) := by simp; omega
    simp only [accountinglaw08_sum.l0, if_neg g]
    simpa using Ev.const _
  | x :: B, A, s, i, hi, hs, hB, h0, h1 => by
    simp only [List.length_append, List.length_cons] at hs
    have g1 : 0 ≤ i := by omega
    have g2 : i < ((A ++ x :: B).length : Int) := by simp; omega
    have r := rd_at A x B i hi
    have hx := hB x (by simp)
    have e : wrap64 (i + 1) = i + 1 := w64 (by omega) (by omega)
    have m1 : b * i ≤ 2000000000000000 * 1000 := Int.mul_le_mul hb2 (by omega) g1 (by omega)
    have m2 : -b * i = -(b * i) := Int.neg_mul _ _
    have m3 : b * (i + 1) = b * i + b := by rw [Int.mul_add, Int.mul_one]
    have m4 : -b * (i + 1) = -(b * i) - b := by rw [Int.mul_add, Int.mul_one, Int.neg_mul]; omega
    have e2 : wrap64 (s + x) = s + x := w64 (by omega) (by omega)
    refine Ev.succ ?_
    simp only [accountinglaw08_sum.l0, if_pos g2, if_pos g1, r, e, e2]
    have ih := accountinglaw08_sum.go b hb hb2 B (A ++ [x]) (s + x) (i + 1) (by simp; omega) (by simp only [List.length_append, List.length_cons, List.length_nil]; omega) (fun z hz => hB z (by simp [hz])) (by omega) (by omega)
    rw [List.sum_cons, ← Int.add_assoc]
    simpa using ih
theorem accountinglaw08_sum.eq (l : List Int) (hl : l.length ≤ 1000) (hB : ∀ v ∈ l, -2000000000000000 ≤ v ∧ v ≤ 2000000000000000) : Ev (fun k => accountinglaw08_sum.f k l) l.sum := by
  have := accountinglaw08_sum.go 2000000000000000 (by omega) (by omega) l [] 0 0 rfl (by simpa using hl) hB (by omega) (by omega)
  simpa [accountinglaw08_sum.f] using this
theorem pos_length (s : Int) (l : List Int) : (pos s l).length = l.length := by unfold pos; rw [inc_length]; simp [qs]
theorem shr_length (a : Int) (l : List Int) : (shr a l).length = l.length := by
  unfold shr; split
  · rw [List.length_map, pos_length]
  · exact pos_length _ _
theorem sum_set (x : List Int) : ∀ (n : Nat) (v : Int), n < x.length → (x.set n v).sum = x.sum + v - x.getD n 0 := by
  induction x with
  | nil => intro n v h; simp at h
  | cons y x ih =>
    intro n v h
    cases n with
    | zero => simp; omega
    | succ n =>
      have := ih n v (by simpa using h)
      simp only [List.set_cons_succ, List.sum_cons, List.getD_cons_succ, this]; omega
theorem sum_inc : ∀ (Y x : List Int), (∀ y ∈ Y, 0 ≤ y ∧ y < x.length) → (inc x Y).sum = x.sum + Y.length
  | [], x, _ => by simp [inc]
  | y :: Y, x, h => by
    have h0 := h y (by simp)
    rw [inc_cons, sum_inc Y _ (fun z hz => by rw [List.length_set]; exact h z (by simp [hz])), sum_set x y.toNat _ (by omega)]
    simp only [List.length_cons, rd]; omega
theorem pos_sum {s : Int} {l : List Int} (h : Fit s l) : (pos s l).sum = s := by
  have lb := lf_bounds s l h.t0
  have hl : (rk (rs s l.sum l)).length = l.length := by rw [h.rk.1.length_eq, idx_length]
  unfold pos
  rw [sum_inc _ _ h.take, List.length_take, hl]
  have e : lf s l.sum l = s - (qs s l.sum l).sum := rfl
  omega
theorem sum_neg : ∀ l : List Int, (l.map (fun x => -x)).sum = -l.sum
  | [] => by simp
  | x :: l => by simp only [List.map_cons, List.sum_cons, sum_neg l]; omega
theorem shr_sum {a : Int} {l : List Int} (h : shErr a l = 0) : (shr a l).sum = a := by
  have F := shErr_le h
  unfold shr
  by_cases c : a < 0
  · simp only [if_pos c] at F ⊢
    rw [sum_neg, pos_sum F]; omega
  · simp only [if_neg c] at F ⊢
    exact pos_sum F
theorem shr_bounds {a : Int} {l : List Int} (h : shErr a l = 0) : ∀ v ∈ shr a l, -2000000000000000 ≤ v ∧ v ≤ 2000000000000000 := by
  have F := shErr_le h
  unfold shr
  by_cases c : a < 0
  · simp only [if_pos c] at F ⊢
    intro v hv
    obtain ⟨w, hw, rfl⟩ := List.mem_map.1 hv
    have := pos_bounds F w hw
    omega
  · simp only [if_neg c] at F ⊢
    intro v hv
    have := pos_bounds F v hv
    omega
theorem shErr_many {a : Int} {l : List Int} (h : l.length > 200) : shErr a l = 9 := by unfold shErr; rw [if_pos h]
end Go.Proofs.Ytikglhfeookhaaa.M
end
section
/- Even returns what the chapter defines: the law holds for every amount and number of parts. -/
namespace Go.Proofs.Ytikglhfeookhaaa.M
open Go.RowKit Go.Proofs.YtikglhfeookhaaaW.PrintWords Dv
set_option linter.unusedVariables false
theorem pure_SplitEvenReference : accountinglaw08_SplitEvenReference.Pure := by
  intro a n ha hn
  refine Ev.out (g := fun k => accountinglaw08_SplitEvenReference.f k a n) ?_
  simp only [accountinglaw08_SplitEvenReference.f]
  refine Ev.bind (split_Even.eq a n) (Ev.bind (accountingref08_Even.eq a n) ?_)
  simp only [if_true]
  refine Ev.bind (accountingref08_Same.self _ (by
    unfold evn
    split
    · simp
    · split
      · simp
      · split
        · simp [shr_length]; omega
        · simp)) ?_
  simp only [if_true]
  exact Ev.bind accountinglaw08_lives.true (Ev.const _)
end Go.Proofs.Ytikglhfeookhaaa.M
namespace Go.Proofs.Ytikglhfeookhaaa.Pure
theorem SplitEvenReference : M.accountinglaw08_SplitEvenReference.Pure := M.pure_SplitEvenReference
end Go.Proofs.Ytikglhfeookhaaa.Pure
end
section
-- Written by mprint.py (a program of this session) over the kit's print.
namespace Go.Proofs.Ytikglhfeookhaaa.splitEvenReference
open Go.ChangeShapes Go.WideShapes Go.ChangeAt Go.RowKit
open Go.ChangeMaps (open_string shut_string)
set_option linter.unusedVariables false
theorem own : ownKnob Try.prog.godebug = none := by kernel_rfl
set_option maxRecDepth 100000 in
theorem lifted (os : Os) (started : os.Started) (H : Type) (enc : TypeId × Value → H) :
    ReturnsInHanded {} Try.checked os 4 .any (Rows.splitEvenReferenceSpec.pre6 enc Try.prog Try.f4 Rows.splitEvenReferenceRow.domain false) (Rows.splitEvenReferenceSpec.post enc Try.prog Try.f4 false true false false) := by
  refine returnsInHanded_of_change_sized (C := Try.checked) own started (by kernel_rfl) Try.func4
    (ChangeSpec.witness6 (enc := enc) (C := Try.checked) false ⟨#[], #[.int .i64 0, .int .i64 0], []⟩ 8 (by kernel_rfl) (by kernel_rfl) (by kernel_rfl) (by kernel_rfl)) ?_
  intro W base args ds gs before hval0 hW hcnd hsz0 _
  have hsz : (DataW.weightsEach Try.prog (Try.f4.params.toList ++ Rows.splitEvenReferenceSpec.plain.varTypes Try.prog) (ds ++ gs)).all (· ≤ reachBytes) = true := hsz0
  have hval : ∀ (j : Nat) t v, Try.f4.params[j]? = some t → args[j]? = some v → Value.okWide Try.prog W .any base t v := hval0
  have hW' := hW
  obtain ⟨p, q, hA0, hV, rfl, hfz, hnd⟩ := hW
  have hA : DataW.TrodAll enc Try.prog W 0 (fun _ => true) true Try.f4.params.toList args.toList ds p := hA0
  rw [Try.params4] at hA hval hsz
  obtain ⟨v0, vs0, d0, ds0, p0, q0, hargs, rfl, rfl, h0, r0⟩ := trodAll_cons hA
  obtain ⟨v1, vs1, d1, ds1, p1, q1, rfl, rfl, rfl, h1, r1⟩ := trodAll_cons r0
  obtain ⟨rfl, rfl, rfl⟩ := trodAll_nil r1
  obtain rfl : args = #[v0, v1] := by cases args; simp_all
  obtain ⟨rfl, rfl⟩ := trodVars_none hV
  obtain ⟨a0, rfl, rfl, rfl, w0⟩ := open_int Try.underlying3 (hval 0 3 v0 rfl rfl) h0
  obtain ⟨a1, rfl, rfl, rfl, w1⟩ := open_int Try.underlying3 (hval 1 3 v1 rfl rfl) h1
  clear hA0 hval0 hsz0 hsz
  refine (M.accountinglaw08_SplitEvenReference.walk Pure.SplitEvenReference a0 a1 W w0 w1).mono fun e W' ⟨he, bel⟩ => ?_
  subst he
  exact ⟨_, rfl, _, _, _, [], _, [], hW', trodAll_mk1 (shut_bool Try.underlying4 _), (trodAll_cons_mk (shut_int Try.underlying3 w0) (trodAll_cons_mk (shut_int Try.underlying3 w1) trodAll_mk0)), rfl, bel.frame _, fun h => by cases h⟩
theorem over : Rows.splitEvenReferenceRow.holds Try.pinned (OpenSpec.ofChange Rows.splitEvenReferenceSpec) :=
  OpenClaim.holds_of_wide 4 Try.f4 rfl rfl rfl rfl rfl rfl rfl ⟨rfl, rfl, rfl, rfl, rfl⟩ rfl rfl rfl rfl rfl (by kernel_rfl) Try.func4 (by kernel_rfl)
    (of_decide_eq_true (by kernel_rfl)) (by unfold Func.isWrapper; first | (rw [if_pos (by decide +kernel)]; kernel_rfl) | (rw [if_neg (by decide +kernel)]; exact ⟨rfl, rfl⟩))
    (fun os started H enc _ => lifted os started H enc)
theorem proved : Rows.SplitEvenReferenceSaid := over
#print axioms proved
end Go.Proofs.Ytikglhfeookhaaa.splitEvenReference
namespace Go.Proofs.Ytikglhfeookhaaa
/-- The row, under a short name, for the claim. -/
theorem splitEvenReference_holds : Rows.SplitEvenReferenceSaid := splitEvenReference.proved
end Go.Proofs.Ytikglhfeookhaaa
end
