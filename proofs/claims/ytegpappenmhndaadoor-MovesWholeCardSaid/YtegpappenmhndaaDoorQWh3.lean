/- The law of the movements, walked and shown. Part 3 of 3 of what is the claim's own. -/
import Derived.Test.YtegpappenmhndaaDoorQBB1
import Derived.Test.YtegpappenmhndaaDoorQBB6
import Derived.Test.YtegpappenmhndaaDoorQBB4
import Derived.Test.YtegpappenmhndaaDoorQBB7
import Derived.Test.YtegpappenmhndaaDoorQBB3
import Derived.Test.YtegpappenmhndaaDoorQWh2
import Derived.Test.YtegpappenmhndaaDoorQWh1
import Derived.Test.YtegpappenmhndaaDoorQBB8
import Derived.Test.YtegpappenmhndaaDoorRows
import Derived.ProofKit
import Derived.LaidMore
import Derived.OpenShut
import Derived.Stop.Joined
import Derived.WalkKit
import Derived.ShutString
import Derived.ChangeOld
import Derived.Below
import Derived.SizedLaws
import Derived.Test.YtegpappenmhndaaDoorCards
import Derived.Test.YtegpappenmhndaaDoorTie
import Derived.SevenTiedAt
namespace Go.Proofs.YtegpappenmhndaaDoor.M
theorem pwh3_0 {p : Prop} (h : p := by simp only [List.length_append]; omega) : p := h
theorem pwh3_1 {p : Prop} (h : p := by rw [List.length_append]; omega) : p := h
end Go.Proofs.YtegpappenmhndaaDoor.M
section
namespace Go.Proofs.YtegpappenmhndaaDoor.M
open Go.RowKit Go.Proofs.YtegpappenmhndaaDoorW.PrintWords
set_option linter.unusedVariables false
theorem F86.swap (s : List Int) (b0 n : Int) : ∀ (A B P M S : List Int) (a i : Int), A.length = B.length → a + i = (P.length : Int) → b0 + i = (P.length : Int) + A.length + M.length → n = i + A.length → 0 ≤ a → 0 ≤ i → (P ++ A ++ M ++ B ++ S).length < 1000000 →
  Ev (fun k => F86.l0 k (P ++ A ++ M ++ B ++ S) a b0 n i) (P ++ B ++ M ++ A ++ S)
 | [], B, P, M, S, a, i, hl, ha, hb, hn, _, _, _ => by
  obtain rfl : B = [] := List.eq_nil_of_length_eq_zero hl.symm; refine Ev.succ ?_; have h : ¬ i < n := by simp at hn; omega
  simp only [F86.l0, if_neg h]; exact Ev.const _
 | u :: A, B, P, M, S, a, i, hl, ha, hb, hn, h0, h1, hs => by
  obtain ⟨v, B, rfl⟩ : ∃ v B', B = v :: B' := by
   cases B with
   | nil => simp at hl
   | cons v B => exact ⟨v, B, rfl⟩
  simp only [List.length_cons] at hl hn hb; simp only [List.length_append, List.length_cons] at hs; have ih := F86.swap s b0 n A B (P ++ [v]) (M ++ [u]) S a (i + 1) (by omega) (by simp; omega) (by simp; omega) (by omega) h0 (by omega) (by simp only [List.length_append, List.length_cons, List.length_nil]; omega); refine Ev.succ ?_; have e1 : wrap64 (a + i) = a + i := w64 (by omega) (by omega); have e2 : wrap64 (b0 + i) = b0 + i := w64 (by omega) (by omega); have e3 : wrap64 (i + 1) = i + 1 := w64 (by omega) (by omega)
  have r1 : rd (P ++ u :: A ++ M ++ v :: B ++ S) (a + i) = u := by
   rw [show P ++ u :: A ++ M ++ v :: B ++ S = P ++ u :: (A ++ M ++ v :: B ++ S) by simp]; exact rd_at _ _ _ _ ha
  have r2 : rd (P ++ u :: A ++ M ++ v :: B ++ S) (b0 + i) = v := by
   rw [show P ++ u :: A ++ M ++ v :: B ++ S = (P ++ u :: A ++ M) ++ v :: (B ++ S) by simp]; exact rd_at _ _ _ _ (by simp; omega)
  have s1 : (P ++ u :: A ++ M ++ v :: B ++ S).set (a + i).toNat v = P ++ v :: A ++ M ++ v :: B ++ S := by
   rw [show P ++ u :: A ++ M ++ v :: B ++ S = P ++ u :: (A ++ M ++ v :: B ++ S) by simp, set_at _ _ _ _ _ ha]; simp
  have s2 : (P ++ v :: A ++ M ++ v :: B ++ S).set (b0 + i).toNat u = P ++ v :: A ++ M ++ u :: B ++ S := by
   rw [show P ++ v :: A ++ M ++ v :: B ++ S = (P ++ v :: A ++ M) ++ v :: (B ++ S) by simp, set_at _ _ _ _ _ (by simp; omega)]; simp
  have hlen : ((P ++ u :: A ++ M ++ v :: B ++ S).length : Int) = P.length + A.length + M.length + B.length + S.length + 2 := by simp; omega
  have g0 : i < n := by omega
  have g1 : 0 ≤ b0 + i := by omega
  have g2 : b0 + i < ((P ++ u :: A ++ M ++ v :: B ++ S).length : Int) := by omega
  have g3 : 0 ≤ a + i := by omega
  have g4 : a + i < ((P ++ u :: A ++ M ++ v :: B ++ S).length : Int) := by omega
  simp only [F86.l0, e1, e2, e3, if_pos g0, if_pos g1, if_pos g2, if_pos g3, if_pos g4, r1, r2, s1, s2]; rw [show P ++ v :: A ++ M ++ u :: B ++ S = (P ++ [v]) ++ A ++ (M ++ [u]) ++ B ++ S by simp, show P ++ v :: B ++ M ++ u :: A ++ S = (P ++ [v]) ++ B ++ (M ++ [u]) ++ A ++ S by simp]; exact ih
theorem F86.f_swap (s A B P M S : List Int) (a b n : Int) (hl : A.length = B.length) (ha : a = (P.length : Int)) (hb : b = (P.length : Int) + A.length + M.length) (hn : n = A.length) (hs : (P ++ A ++ M ++ B ++ S).length < 1000000) :
  Ev (fun k => F86.f k (P ++ A ++ M ++ B ++ S) a b n s) (P ++ B ++ M ++ A ++ S) :=
 F86.swap s b n A B P M S a 0 hl (by omega) (by omega) (by omega) (by omega) (by omega) hs
theorem F85.rot (s : List Int) : ∀ (N : Nat) (P A B S : List Int) (m i j : Int), A.length + B.length ≤ N → 0 < A.length → 0 < B.length → i = A.length → j = B.length → m = (P.length : Int) + A.length → (P ++ A ++ B ++ S).length < 1000000 →
  Ev (fun k => F85.l0 k (P ++ A ++ B ++ S) m i j s) (P ++ B ++ A ++ S)
 | 0, P, A, B, S, m, i, j, hN, hA, hB, _, _, _, _ => by omega
 | N + 1, P, A, B, S, m, i, j, hN, hA, hB, hi, hj, hm, hs => by
  refine Ev.succ ?_; have hs' : P.length + A.length + B.length + S.length < 1000000 := by simpa [Nat.add_assoc] using hs
  have e1 : wrap64 (m - i) = m - i := w64 (by omega) (by omega)
  by_cases h1 : i = j
  ·simp only [F85.l0, if_pos h1, e1]; have h := F86.f_swap s A B P [] S (m - i) m i (by omega) (by omega) (by simp; omega) (by omega) (by simp; omega); simp only [List.append_nil] at h; exact Ev.bind h (Ev.const _)
  ·by_cases h2 : i > j
   ·simp only [F85.l0, if_neg h1, if_pos h2, e1]; obtain ⟨A1, A2, rfl, l1, l2⟩ := split_at A B.length (by omega); simp only [List.length_append] at *; have h := F86.f_swap s A1 B P A2 S (m - i) m j (by omega) (by omega) (by omega) (by omega) (by simp; omega); have ih := F85.rot s N (P ++ B) A2 A1 S m (i - j) j (by omega) (by omega) (by omega) (by omega) (by omega) (by simp; omega) (by simp; omega); have e2 : wrap64 (i - j) = i - j := w64 (by omega) (by omega); rw [e2]; refine Ev.bind (a := P ++ B ++ A2 ++ A1 ++ S) ?_ ?_
    ·simpa [List.append_assoc] using h
    ·simpa [List.append_assoc] using ih
   ·simp only [F85.l0, if_neg h1, if_neg h2, e1]; obtain ⟨B1, B2, rfl, l1, l2⟩ := split_at B (B.length - A.length) (by omega); simp only [List.length_append] at *; have e2 : wrap64 (wrap64 (m + j) - i) = m + j - i := by rw [w64 (n := m + j) (by omega) (by omega)]; exact w64 (by omega) (by omega)
    have e3 : wrap64 (j - i) = j - i := w64 (by omega) (by omega); have h := F86.f_swap s A B2 P B1 S (m - i) (m + j - i) i (by omega) (by omega) (by omega) (by omega) (by simp; omega); have ih := F85.rot s N P B2 B1 (A ++ S) m i (j - i) (by omega) (by omega) (by omega) (by omega) (by omega) (by omega) (by simp; omega); rw [e2, e3]; refine Ev.bind (a := P ++ B2 ++ B1 ++ A ++ S) ?_ ?_
    ·simpa [List.append_assoc] using h
    ·simpa [List.append_assoc] using ih
theorem F85.f_rot (s P A B S : List Int) (a m b : Int) (hA : 0 < A.length) (hB : 0 < B.length) (ha : a = P.length) (hm : m = (P.length : Int) + A.length) (hb : b = (P.length : Int) + A.length + B.length) (hs : (P ++ A ++ B ++ S).length < 1000000) :
  Ev (fun k => F85.f k (P ++ A ++ B ++ S) a m b s) (P ++ B ++ A ++ S) := by
 have hs' : P.length + A.length + B.length + S.length < 1000000 := by simpa [Nat.add_assoc] using hs
 have e1 : wrap64 (m - a) = m - a := w64 (by omega) (by omega); have e2 : wrap64 (b - m) = b - m := w64 (by omega) (by omega); simp only [F85.f, e1, e2]; exact F85.rot s _ P A B S m (m - a) (b - m) (Nat.le_refl _) hA hB (by omega) (by omega) hm hs
structure Tot (lt : Int → Int → Prop) : Prop where
 trans : ∀ x y z, lt x y → lt y z → lt x z
 tot : ∀ x y, x ≠ y → lt x y ∨ lt y x
 irr : ∀ x, ¬ lt x x
theorem Tot.asym {lt : Int → Int → Prop} (o : Tot lt) {x y : Int} (h : lt x y) : ¬ lt y x := fun k => o.irr x (o.trans _ _ _ h k)
def Cm (s : List Int) (lt : Int → Int → Prop) (x y : Int) : Prop := x ≠ y ∧ ∃ v, F81.f y x s = some v ∧ (v < 0 ↔ lt y x)
theorem F83.in1 (s : List Int) (lt : Int → Int → Prop) (o : Tot lt) (a b i : Int) (u : Int) (P T : List Int) (ha : a = (P.length : Int)) : ∀ (N : Nat) (L1 L2 : List Int) (j : Int), L1.length = N → j = a + N → (∀ y ∈ L1, Cm s lt y u) → (L1 ++ L2).Pairwise lt → (∀ y ∈ L2, lt u y) → (P ++ (L1 ++ u :: L2) ++ T).length < 1000000 →
  ∃ L', L'.Perm (L1 ++ u :: L2) ∧ L'.Pairwise lt ∧ ∀ r, Ev (fun k => F83.l0 k (P ++ L' ++ T) a b (wrap64 (i + 1)) s) r → Ev (fun k => F83.l1 k (P ++ (L1 ++ u :: L2) ++ T) a b i j s) r
 | 0, L1, L2, j, hN, hj, hc, hp, hu, hs => by
  obtain rfl : L1 = [] := List.eq_nil_of_length_eq_zero hN; refine ⟨u :: L2, List.Perm.refl _, List.pairwise_cons.2 ⟨hu, by simpa using hp⟩, fun r h => Ev.succ ?_⟩; have g : ¬ j > a := by simp at hj; omega
  simp only [F83.l1, if_neg g]; exact h
 | N + 1, L1, L2, j, hN, hj, hc, hp, hu, hs => by
  obtain ⟨L1, y, rfl⟩ : ∃ L y, L1 = L ++ [y] := by
   have hne : L1 ≠ [] := by intro h; rw [h] at hN; simp at hN
   exact ⟨L1.dropLast, L1.getLast hne, (List.dropLast_concat_getLast hne).symm⟩
  have hN' : L1.length = N := by simpa using hN
  have hs' : P.length + L1.length + L2.length + T.length + 2 < 1000000 := by simp only [List.length_append, List.length_cons, List.length_nil] at hs; omega
  obtain ⟨hne, v, hv, hvl⟩ := hc y (by simp); have e1 : wrap64 (j - 1) = j - 1 := w64 (by omega) (by omega)
  have r1 : rd (P ++ (L1 ++ [y] ++ u :: L2) ++ T) j = u := by
   rw [show P ++ (L1 ++ [y] ++ u :: L2) ++ T = (P ++ L1 ++ [y]) ++ u :: (L2 ++ T) by simp]; exact rd_at _ _ _ _ (by simp; omega)
  have r2 : rd (P ++ (L1 ++ [y] ++ u :: L2) ++ T) (j - 1) = y := by
   rw [show P ++ (L1 ++ [y] ++ u :: L2) ++ T = (P ++ L1) ++ y :: (u :: L2 ++ T) by simp]; exact rd_at _ _ _ _ (by simp; omega)
  have s1 : (P ++ (L1 ++ [y] ++ u :: L2) ++ T).set j.toNat y = P ++ (L1 ++ [y] ++ y :: L2) ++ T := by
   rw [show P ++ (L1 ++ [y] ++ u :: L2) ++ T = (P ++ L1 ++ [y]) ++ u :: (L2 ++ T) by simp, set_at _ _ _ _ _ (by simp; omega)]; simp
  have s2 : (P ++ (L1 ++ [y] ++ y :: L2) ++ T).set (j - 1).toNat u = P ++ (L1 ++ u :: (y :: L2)) ++ T := by
   rw [show P ++ (L1 ++ [y] ++ y :: L2) ++ T = (P ++ L1) ++ y :: (y :: L2 ++ T) by simp, set_at _ _ _ _ _ (by simp; omega)]; simp
  have hlen : ((P ++ (L1 ++ [y] ++ u :: L2) ++ T).length : Int) = P.length + L1.length + L2.length + T.length + 2 := by simp; omega
  have g0 : j > a := by omega
  have g1 : 0 ≤ j := by omega
  have g2 : j < ((P ++ (L1 ++ [y] ++ u :: L2) ++ T).length : Int) := by omega
  have g3 : 0 ≤ j - 1 := by omega
  have g4 : j - 1 < ((P ++ (L1 ++ [y] ++ u :: L2) ++ T).length : Int) := by omega
  by_cases hlt : lt u y
  ·obtain ⟨L', q1, q2, q3⟩ := F83.in1 s lt o a b i u P T ha N L1 (y :: L2) (j - 1) hN' (by omega) (fun z hz => hc z (by simp [hz])) (by simpa using hp) (fun z hz => by
    rcases List.mem_cons.1 hz with rfl | hz
    ·exact hlt
    ·exact hu z hz) (by simp only [List.length_append, List.length_cons]; omega)
   refine ⟨L', q1.trans ?_, q2, fun r h => Ev.succ ?_⟩
   ·rw [List.append_assoc]; exact List.Perm.append_left L1 (List.Perm.swap y u L2)
   ·have hv0 : v < 0 := hvl.2 hlt; simp only [F83.l1, if_pos g0, e1, if_pos g1, if_pos g2, if_pos g3, if_pos g4, r1, r2, hv, Option.bind_some, if_pos hv0, s1, s2]; exact q3 r h
  ·have hv0 : ¬ v < 0 := fun k => hlt (hvl.1 k); have hyu : lt y u := (o.tot y u hne).resolve_right hlt; refine ⟨L1 ++ [y] ++ u :: L2, List.Perm.refl _, ?_, fun r h => Ev.succ ?_⟩
   ·obtain ⟨p1, p2, p3⟩ := List.pairwise_append.1 hp; refine List.pairwise_append.2 ⟨p1, List.pairwise_cons.2 ⟨hu, p2⟩, fun z hz w hw => ?_⟩
    rcases List.mem_cons.1 hw with rfl | hw
    ·rcases List.mem_append.1 hz with hz1 | hz1
     ·exact o.trans _ _ _ ((List.pairwise_append.1 p1).2.2 z hz1 y (by simp)) hyu
     ·rw [List.mem_singleton.1 hz1]; exact hyu
    ·exact p3 z hz w hw
   ·simp only [F83.l1, if_pos g0, e1, if_pos g1, if_pos g2, if_pos g3, if_pos g4, r1, r2, hv, Option.bind_some, if_neg hv0]; exact h
theorem F83.out (s : List Int) (lt : Int → Int → Prop) (o : Tot lt) (a b : Int) (P T : List Int) (ha : a = (P.length : Int)) : ∀ (R L : List Int) (i : Int), i = a + L.length → b = i + R.length → L.Pairwise lt → (∀ x ∈ L, ∀ y ∈ R, Cm s lt x y) → R.Pairwise (Cm s lt) → (P ++ (L ++ R) ++ T).length < 1000000 →
  ∃ M, M.Perm (L ++ R) ∧ M.Pairwise lt ∧ Ev (fun k => F83.l0 k (P ++ (L ++ R) ++ T) a b i s) (P ++ M ++ T)
 | [], L, i, hi, hb, hp, _, _, _ => by
  refine ⟨L, by simp, hp, Ev.succ ?_⟩; have g : ¬ i < b := by simp at hb; omega
  simp only [F83.l0, if_neg g, List.append_nil]; exact Ev.const _
 | u :: R, L, i, hi, hb, hp, hc, hr, hs => by
  have hs' : P.length + L.length + R.length + T.length + 1 < 1000000 := by simp only [List.length_append, List.length_cons] at hs; omega
  simp only [List.length_cons] at hb; obtain ⟨L', q1, q2, q3⟩ := F83.in1 s lt o a b i u P (R ++ T) ha L.length L [] i rfl hi (fun y hy => hc y hy u (by simp)) (by simpa using hp) (by simp) (by simp only [List.length_append, List.length_cons, List.length_nil]; omega); have e1 : wrap64 (i + 1) = i + 1 := w64 (by omega) (by omega); have hl' : L'.length = L.length + 1 := by simpa using q1.length_eq
  obtain ⟨M, m1, m2, m3⟩ := F83.out s lt o a b P T ha R L' (i + 1) (by omega) (by omega) q2 (fun x hx y hy => by
   rcases List.mem_append.1 (q1.mem_iff.1 hx) with h | h
   ·exact hc x h y (by simp [hy])
   ·obtain rfl : x = u := by simpa using h
    exact (List.pairwise_cons.1 hr).1 y hy) (List.pairwise_cons.1 hr).2 pwh3_0
  refine ⟨M, m1.trans ?_, m2, Ev.succ ?_⟩
  ·have := List.Perm.append_right R q1
   simpa using this
  ·have g : i < b := by omega
   simp only [F83.l0, if_pos g]; have := q3 (P ++ M ++ T) (by rw [e1]; simpa using m3)
   simpa using this
theorem F83.f_sort (s : List Int) (lt : Int → Int → Prop) (o : Tot lt) (a b : Int) (P R T : List Int) (ha : a = (P.length : Int)) (hb : b = a + R.length) (hr : R.Pairwise (Cm s lt)) (hs : (P ++ R ++ T).length < 1000000) :
  ∃ M, M.Perm R ∧ M.Pairwise lt ∧ Ev (fun k => F83.f k (P ++ R ++ T) a b s) (P ++ M ++ T) := by
 have hs' : P.length + R.length + T.length < 1000000 := by simpa [Nat.add_assoc] using hs
 have e1 : wrap64 (a + 1) = a + 1 := w64 (by omega) (by omega); simp only [F83.f, e1]
 cases R with
 | nil =>
  refine ⟨[], List.Perm.refl _, List.Pairwise.nil, Ev.succ ?_⟩; have g : ¬ a + 1 < b := by simp at hb; omega
  simp only [F83.l0, if_neg g]; exact Ev.const _
 | cons u R =>
  simp only [List.length_cons] at hb
  have h := F83.out s lt o a b P T ha R [u] (a + 1) (by simp) (by omega) (by simp) (fun x hx y hy => by
   obtain rfl : x = u := by simpa using hx
   exact (List.pairwise_cons.1 hr).1 y hy) (List.pairwise_cons.1 hr).2 (by simpa using hs)
  simpa using h
theorem F84.up (P T : List Int) (u : Int) (i : Int) : ∀ (R : List Int) (P : List Int) (kk : Int), kk = (P.length : Int) → i = kk + 1 + R.length → (P ++ u :: R ++ T).length < 1000000 → Ev (fun k => F84.l1 k (P ++ u :: R ++ T) i kk) (P ++ R ++ u :: T)
 | [], P, kk, hk, hi, hs => by
  refine Ev.succ ?_; have hs' : P.length + T.length + 1 < 1000000 := by simp only [List.length_append, List.length_cons, List.length_nil] at hs; omega
  have e1 : wrap64 (i - 1) = i - 1 := w64 (by simp at hi; omega) (by simp at hi; omega); have g : ¬ kk < i - 1 := by simp at hi; omega
  simp only [F84.l1, e1, if_neg g]
  simpa using Ev.const _
 | y :: R, P, kk, hk, hi, hs => by
  have hs' : P.length + R.length + T.length + 2 < 1000000 := by simp only [List.length_append, List.length_cons] at hs; omega
  simp only [List.length_cons] at hi; have e1 : wrap64 (i - 1) = i - 1 := w64 (by omega) (by omega); have e2 : wrap64 (kk + 1) = kk + 1 := w64 (by omega) (by omega)
  have r1 : rd (P ++ u :: y :: R ++ T) kk = u := by
   rw [show P ++ u :: y :: R ++ T = P ++ u :: (y :: R ++ T) by simp]; exact rd_at _ _ _ _ hk
  have r2 : rd (P ++ u :: y :: R ++ T) (kk + 1) = y := by
   rw [show P ++ u :: y :: R ++ T = (P ++ [u]) ++ y :: (R ++ T) by simp]; exact rd_at _ _ _ _ (by simp; omega)
  have s1 : (P ++ u :: y :: R ++ T).set kk.toNat y = P ++ y :: y :: R ++ T := by
   rw [show P ++ u :: y :: R ++ T = P ++ u :: (y :: R ++ T) by simp, set_at _ _ _ _ _ hk]; simp
  have s2 : (P ++ y :: y :: R ++ T).set (kk + 1).toNat u = (P ++ [y]) ++ u :: R ++ T := by
   rw [show P ++ y :: y :: R ++ T = (P ++ [y]) ++ y :: (R ++ T) by simp, set_at _ _ _ _ _ (by simp; omega)]; simp
  have hlen : ((P ++ u :: y :: R ++ T).length : Int) = P.length + R.length + T.length + 2 := by simp; omega
  have g0 : kk < i - 1 := by omega
  have g1 : 0 ≤ kk := by omega
  have g2 : kk < ((P ++ u :: y :: R ++ T).length : Int) := by omega
  have g3 : 0 ≤ kk + 1 := by omega
  have g4 : kk + 1 < ((P ++ u :: y :: R ++ T).length : Int) := by omega
  have ih := F84.up P T u i R (P ++ [y]) (kk + 1) (by simp; omega) (by omega) (by simp only [List.length_append, List.length_cons, List.length_nil]; omega); refine Ev.succ ?_; simp only [F84.l1, e1, e2, if_pos g0, if_pos g1, if_pos g2, if_pos g3, if_pos g4, r1, r2, s1, s2]
  simpa using ih
theorem F84.down (P : List Int) (u : Int) (i : Int) (hi : i = (P.length : Int)) : ∀ (N : Nat) (L T : List Int) (kk : Int), L.length = N → kk = i + N → (P ++ L ++ u :: T).length < 1000000 → Ev (fun k => F84.l3 k (P ++ L ++ u :: T) i kk) (P ++ u :: L ++ T)
 | 0, L, T, kk, hN, hk, hs => by
  obtain rfl : L = [] := List.eq_nil_of_length_eq_zero hN; refine Ev.succ ?_; have g : ¬ kk > i := by simp at hk; omega
  simp only [F84.l3, if_neg g]
  simpa using Ev.const _
 | N + 1, L, T, kk, hN, hk, hs => by
  obtain ⟨L, y, rfl⟩ : ∃ L' y, L = L' ++ [y] := by
   have hne : L ≠ [] := by intro h; rw [h] at hN; simp at hN
   exact ⟨L.dropLast, L.getLast hne, (List.dropLast_concat_getLast hne).symm⟩
  have hN' : L.length = N := by simpa using hN
  have hs' : P.length + L.length + T.length + 2 < 1000000 := by simp only [List.length_append, List.length_cons, List.length_nil] at hs; omega
  have e1 : wrap64 (kk - 1) = kk - 1 := w64 (by omega) (by omega); have r1 : rd (P ++ (L ++ [y]) ++ u :: T) kk = u := rd_at _ _ _ _ (by simp; omega)
  have r2 : rd (P ++ (L ++ [y]) ++ u :: T) (kk - 1) = y := by
   rw [show P ++ (L ++ [y]) ++ u :: T = (P ++ L) ++ y :: (u :: T) by simp]; exact rd_at _ _ _ _ (by simp; omega)
  have s1 : (P ++ (L ++ [y]) ++ u :: T).set kk.toNat y = P ++ (L ++ [y]) ++ y :: T := set_at _ _ _ _ _ (by simp; omega)
  have s2 : (P ++ (L ++ [y]) ++ y :: T).set (kk - 1).toNat u = P ++ L ++ u :: (y :: T) := by
   rw [show P ++ (L ++ [y]) ++ y :: T = (P ++ L) ++ y :: (y :: T) by simp, set_at _ _ _ _ _ (by simp; omega)]
  have hlen : ((P ++ (L ++ [y]) ++ u :: T).length : Int) = P.length + L.length + T.length + 2 := by simp; omega
  have g0 : kk > i := by omega
  have g1 : 0 ≤ kk := by omega
  have g2 : kk < ((P ++ (L ++ [y]) ++ u :: T).length : Int) := by omega
  have g3 : 0 ≤ kk - 1 := by omega
  have g4 : kk - 1 < ((P ++ (L ++ [y]) ++ u :: T).length : Int) := by omega
  have ih := F84.down P u i hi N L (y :: T) (kk - 1) hN' (by omega) (by simp only [List.length_append, List.length_cons]; omega); refine Ev.succ ?_; simp only [F84.l3, e1, if_pos g0, if_pos g1, if_pos g2, if_pos g3, if_pos g4, r1, r2, s1, s2]
  simpa using ih
theorem F84.mid {i j : Int} (h0 : 0 ≤ i) (h1 : i ≤ j) (h2 : j < 2000000) : wrap64 (IntKind.u64.wrap (wrap64 (i + j)) / 2) = (i + j) / 2 := by
 rw [w64 (n := i + j) (by omega) (by omega), u64w (by omega) (by omega)]; exact w64 (by omega) (by omega)
theorem F84.one_left (s : List Int) (lt : Int → Int → Prop) (o : Tot lt) (P R T : List Int) (u a m b : Int) (ha : a = (P.length : Int)) (hm : m = a + 1) (hb : b = m + R.length) (hR : R.Pairwise lt) (hc : ∀ y ∈ R, Cm s lt u y) (hs : (P ++ [u] ++ R ++ T).length < 1000000) :
  ∃ M, M.Perm ([u] ++ R) ∧ M.Pairwise lt ∧ Ev (fun k => F84.l0 k (P ++ [u] ++ R ++ T) a m b s) (P ++ M ++ T) := by
 have hs' : P.length + R.length + T.length + 1 < 1000000 := by simp only [List.length_append, List.length_cons, List.length_nil] at hs; omega
 have hlen : ((P ++ [u] ++ R ++ T).length : Int) = P.length + R.length + T.length + 1 := by simp; omega
 have ru : rd (P ++ [u] ++ R ++ T) a = u := by
  rw [show P ++ [u] ++ R ++ T = P ++ u :: (R ++ T) by simp]; exact rd_at _ _ _ _ ha
 have hl1 : ((P ++ [u]).length : Int) = m := by simp; omega
 have hmem : ∀ c, m ≤ c → c < b → rd (P ++ [u] ++ R ++ T) c ∈ R := fun c c0 c1 => rd_mem (P ++ [u]) R T c (by omega) (by omega); have hlt : ∀ c d, m ≤ c → c < d → d < b → lt (rd (P ++ [u] ++ R ++ T) c) (rd (P ++ [u] ++ R ++ T) d) := fun c d c0 c1 c2 => rd_lt (P ++ [u]) R T hR c d (by omega) c1 (by omega)
 obtain ⟨t, t1, t2, t3, t4, t5⟩ := bsearch (fun i j k => F84.l0 k (P ++ [u] ++ R ++ T) a i j s) (fun i k => F84.l1 k (P ++ [u] ++ R ++ T) i a) (fun c => lt (rd (P ++ [u] ++ R ++ T) c) u) m b
  (fun i j r i0 ij j0 q h => by
   refine Ev.succ ?_; have e := F84.mid (i := i) (j := j) (by omega) (by omega) (by omega); have e2 : wrap64 ((i + j) / 2 + 1) = (i + j) / 2 + 1 := w64 (by omega) (by omega); obtain ⟨_, v, hv, hvl⟩ := hc _ (hmem ((i + j) / 2) (by omega) (by omega)); have hv0 : v < 0 := hvl.2 q; have g1 : 0 ≤ (i + j) / 2 := by omega
   have g2 : (i + j) / 2 < ((P ++ [u] ++ R ++ T).length : Int) := by omega
   have g3 : 0 ≤ a := by omega
   have g4 : a < ((P ++ [u] ++ R ++ T).length : Int) := by omega
   simp only [F84.l0, e, e2, if_pos ij, if_pos g1, if_pos g2, if_pos g3, if_pos g4, ru, hv, Option.bind_some, if_pos hv0]; exact h)
  (fun i j r i0 ij j0 q h => by
   refine Ev.succ ?_; have e := F84.mid (i := i) (j := j) (by omega) (by omega) (by omega); obtain ⟨_, v, hv, hvl⟩ := hc _ (hmem ((i + j) / 2) (by omega) (by omega)); have hv0 : ¬ v < 0 := fun k => q (hvl.1 k); have g1 : 0 ≤ (i + j) / 2 := by omega
   have g2 : (i + j) / 2 < ((P ++ [u] ++ R ++ T).length : Int) := by omega
   have g3 : 0 ≤ a := by omega
   have g4 : a < ((P ++ [u] ++ R ++ T).length : Int) := by omega
   simp only [F84.l0, e, if_pos ij, if_pos g1, if_pos g2, if_pos g3, if_pos g4, ru, hv, Option.bind_some, if_neg hv0]; exact h)
  (fun i r _ _ h => by
   refine Ev.succ ?_; simp only [F84.l0, if_neg (Int.lt_irrefl i)]; exact h)
  (fun c d c0 c1 c2 q => o.trans _ _ _ (hlt c d c0 c1 c2) q) _ m b (Nat.le_refl _) (by omega) (Int.le_refl _) (Int.le_refl _) (fun c c0 c1 => by omega) (fun c c0 c1 => by omega)
 obtain ⟨R1, R2, rfl, l1, l2⟩ := split_at R (t - m).toNat (by omega); rw [List.length_append] at hb; obtain ⟨p1, p2, p3⟩ := List.pairwise_append.1 hR
 have q1 : ∀ y ∈ R1, lt y u := fun y hy => by
  obtain ⟨c, c0, c1, rfl⟩ := mem_rd (P ++ [u]) R1 (R2 ++ T) y hy; have := t3 c (by omega) (by omega)
  simpa using this
 have q2 : ∀ y ∈ R2, lt u y := fun y hy => by
  obtain ⟨c, c0, c1, e⟩ := mem_rd (P ++ [u] ++ R1) R2 T y hy; have := t4 c (by rw [List.length_append] at c0; omega) (by rw [List.length_append] at c1; omega); have e' : rd (P ++ [u] ++ (R1 ++ R2) ++ T) c = y := by simpa using e
  rw [e'] at this; exact (o.tot u y (hc y (by simp [hy])).1).resolve_right this
 refine ⟨R1 ++ u :: R2, ?_, ?_, t5 _ ?_⟩
 ·exact List.perm_middle
 ·refine List.pairwise_append.2 ⟨p1, List.pairwise_cons.2 ⟨q2, p2⟩, fun y hy z hz => ?_⟩
  rcases List.mem_cons.1 hz with rfl | hz
  ·exact q1 y hy
  ·exact p3 y hy z hz
 ·have := F84.up P (R2 ++ T) u t R1 P a ha (by omega) (by simp only [List.length_append, List.length_cons] at *; omega)
  simpa using this
theorem F84.one_right (s : List Int) (lt : Int → Int → Prop) (o : Tot lt) (P L T : List Int) (u a m b : Int) (ha : a = (P.length : Int)) (hm : m = a + L.length) (hL : L.Pairwise lt) (hc : ∀ x ∈ L, Cm s lt x u) (hs : (P ++ L ++ [u] ++ T).length < 1000000) :
  ∃ M, M.Perm (L ++ [u]) ∧ M.Pairwise lt ∧ Ev (fun k => F84.l2 k (P ++ L ++ [u] ++ T) m a m s) (P ++ M ++ T) := by
 have hs' : P.length + L.length + T.length + 1 < 1000000 := by simp only [List.length_append, List.length_cons, List.length_nil] at hs; omega
 have hlen : ((P ++ L ++ [u] ++ T).length : Int) = P.length + L.length + T.length + 1 := by simp; omega
 have ru : rd (P ++ L ++ [u] ++ T) m = u := by
  rw [show P ++ L ++ [u] ++ T = (P ++ L) ++ u :: T by simp]; exact rd_at _ _ _ _ (by simp; omega)
 have hmem : ∀ c, a ≤ c → c < m → rd (P ++ L ++ [u] ++ T) c ∈ L := fun c c0 c1 => by
  rw [show P ++ L ++ [u] ++ T = P ++ L ++ ([u] ++ T) by simp]; exact rd_mem P L _ c (by omega) (by omega)
 have hlt : ∀ c d, a ≤ c → c < d → d < m → lt (rd (P ++ L ++ [u] ++ T) c) (rd (P ++ L ++ [u] ++ T) d) := fun c d c0 c1 c2 => by
  rw [show P ++ L ++ [u] ++ T = P ++ L ++ ([u] ++ T) by simp]; exact rd_lt P L _ hL c d (by omega) c1 (by omega)
 obtain ⟨t, t1, t2, t3, t4, t5⟩ := bsearch (fun i j k => F84.l2 k (P ++ L ++ [u] ++ T) m i j s) (fun i k => F84.l3 k (P ++ L ++ [u] ++ T) i m) (fun c => ¬ lt u (rd (P ++ L ++ [u] ++ T) c)) a m
  (fun i j r i0 ij j0 q h => by
   refine Ev.succ ?_; have e := F84.mid (i := i) (j := j) (by omega) (by omega) (by omega); have e2 : wrap64 ((i + j) / 2 + 1) = (i + j) / 2 + 1 := w64 (by omega) (by omega); obtain ⟨_, v, hv, hvl⟩ := hc _ (hmem ((i + j) / 2) (by omega) (by omega)); have hv0 : ¬ v < 0 := fun k => q (hvl.1 k); have g1 : 0 ≤ (i + j) / 2 := by omega
   have g2 : (i + j) / 2 < ((P ++ L ++ [u] ++ T).length : Int) := by omega
   have g3 : 0 ≤ m := by omega
   have g4 : m < ((P ++ L ++ [u] ++ T).length : Int) := by omega
   simp only [F84.l2, e, e2, if_pos ij, if_pos g1, if_pos g2, if_pos g3, if_pos g4, ru, hv, Option.bind_some, if_neg hv0]; exact h)
  (fun i j r i0 ij j0 q h => by
   refine Ev.succ ?_; have e := F84.mid (i := i) (j := j) (by omega) (by omega) (by omega); obtain ⟨_, v, hv, hvl⟩ := hc _ (hmem ((i + j) / 2) (by omega) (by omega)); have hv0 : v < 0 := hvl.2 (Classical.not_not.1 q); have g1 : 0 ≤ (i + j) / 2 := by omega
   have g2 : (i + j) / 2 < ((P ++ L ++ [u] ++ T).length : Int) := by omega
   have g3 : 0 ≤ m := by omega
   have g4 : m < ((P ++ L ++ [u] ++ T).length : Int) := by omega
   simp only [F84.l2, e, if_pos ij, if_pos g1, if_pos g2, if_pos g3, if_pos g4, ru, hv, Option.bind_some, if_pos hv0]; exact h)
  (fun i r _ _ h => by
   refine Ev.succ ?_; simp only [F84.l2, if_neg (Int.lt_irrefl i)]; exact h)
  (fun c d c0 c1 c2 q k => q (o.trans _ _ _ k (hlt c d c0 c1 c2))) _ a m (Nat.le_refl _) (by omega) (Int.le_refl _) (Int.le_refl _) (fun c c0 c1 => by omega) (fun c c0 c1 => by omega)
 obtain ⟨L1, L2, rfl, l1, l2⟩ := split_at L (t - a).toNat (by omega); rw [List.length_append] at hm; obtain ⟨p1, p2, p3⟩ := List.pairwise_append.1 hL
 have q1 : ∀ y ∈ L1, lt y u := fun y hy => by
  obtain ⟨c, c0, c1, e⟩ := mem_rd P L1 (L2 ++ [u] ++ T) y hy; have := t3 c (by omega) (by omega); have e' : rd (P ++ (L1 ++ L2) ++ [u] ++ T) c = y := by simpa using e
  rw [e'] at this; exact (o.tot u y (Ne.symm (hc y (by simp [hy])).1)).resolve_left this
 have q2 : ∀ y ∈ L2, lt u y := fun y hy => by
  obtain ⟨c, c0, c1, e⟩ := mem_rd (P ++ L1) L2 ([u] ++ T) y hy; have := Classical.not_not.1 (t4 c (by rw [List.length_append] at c0; omega) (by rw [List.length_append] at c1; omega)); have e' : rd (P ++ (L1 ++ L2) ++ [u] ++ T) c = y := by simpa using e
  rwa [e'] at this
 refine ⟨L1 ++ u :: L2, ?_, ?_, t5 _ ?_⟩
 ·rw [List.append_assoc]; exact List.Perm.append_left L1 (List.perm_append_comm (l₁ := [u]) (l₂ := L2))
 ·refine List.pairwise_append.2 ⟨p1, List.pairwise_cons.2 ⟨q2, p2⟩, fun y hy z hz => ?_⟩
  rcases List.mem_cons.1 hz with rfl | hz
  ·exact q1 y hy
  ·exact p3 y hy z hz
 ·have := F84.down (P ++ L1) u t pwh3_1 L2.length L2 T m rfl (by omega) (by simp only [List.length_append, List.length_cons, List.length_nil] at *; omega)
  simpa using this
def F84.Ok (s : List Int) (lt : Int → Int → Prop) (P L R T : List Int) (a m b : Int) : Prop :=
 ∃ M, M.Perm (L ++ R) ∧ M.Pairwise lt ∧ Ev (fun k => F84.f k (P ++ L ++ R ++ T) a m b s) (P ++ M ++ T)
theorem F84.tail (s : List Int) (lt : Int → Int → Prop) (P L1 R1 L2 R2 T : List Int) (a mid start fin b : Int) (ha : a = (P.length : Int)) (hst : start = a + L1.length) (hmid : mid = start + R1.length) (hfin : fin = mid + L2.length) (hb : b = fin + R2.length)
  (hL1 : L1.Pairwise lt) (hR1 : R1.Pairwise lt) (hL2 : L2.Pairwise lt) (hR2 : R2.Pairwise lt)
  (f1 : ∀ x ∈ L1, ∀ y ∈ L2, lt x y) (f2 : ∀ x ∈ L1, ∀ y ∈ R2, lt x y) (f3 : ∀ x ∈ R1, ∀ y ∈ L2, lt x y) (f4 : ∀ x ∈ R1, ∀ y ∈ R2, lt x y)
  (h1 : 0 < L1.length → 0 < R1.length → ∀ T', (P ++ L1 ++ R1 ++ T').length < 1000000 → F84.Ok s lt P L1 R1 T' a start mid)
  (h2 : 0 < L2.length → 0 < R2.length → ∀ P', mid = (P'.length : Int) → (P' ++ L2 ++ R2 ++ T).length < 1000000 → F84.Ok s lt P' L2 R2 T mid fin b)
  (hs : (P ++ L1 ++ R1 ++ L2 ++ R2 ++ T).length < 1000000) :
  ∃ M, M.Perm (L1 ++ R1 ++ (L2 ++ R2)) ∧ M.Pairwise lt ∧ Ev (fun k => F84.j7 k (P ++ L1 ++ R1 ++ L2 ++ R2 ++ T) a b mid start fin s) (P ++ M ++ T) := by
 simp only [List.length_append] at hs
 obtain ⟨M1, m1, m2, m3, m4⟩ : ∃ M1 : List Int, M1.Perm (L1 ++ R1) ∧ M1.Pairwise lt ∧ (0 < L1.length → 0 < R1.length → Ev (fun k => F84.f k (P ++ L1 ++ R1 ++ L2 ++ R2 ++ T) a start mid s) (P ++ M1 ++ L2 ++ R2 ++ T)) ∧ (¬ (0 < L1.length ∧ 0 < R1.length) → M1 = L1 ++ R1) := by
  by_cases c : 0 < L1.length ∧ 0 < R1.length
  ·obtain ⟨M, q1, q2, q3⟩ := h1 c.1 c.2 (L2 ++ R2 ++ T) pwh3_0; exact ⟨M, q1, q2, fun _ _ => by simpa using q3, fun h => absurd c h⟩
  ·refine ⟨L1 ++ R1, List.Perm.refl _, ?_, fun a b => absurd ⟨a, b⟩ c, fun _ => rfl⟩
   by_cases c1 : L1.length = 0
   ·rw [List.eq_nil_of_length_eq_zero c1]; simpa using hR1
   ·have c2 : R1.length = 0 := by omega
    rw [List.eq_nil_of_length_eq_zero c2]; simpa using hL1
 have hl1 : M1.length = L1.length + R1.length := by have := m1.length_eq; simpa using this
 obtain ⟨M2, n1, n2, n3, n4⟩ : ∃ M2 : List Int, M2.Perm (L2 ++ R2) ∧ M2.Pairwise lt ∧ (0 < L2.length → 0 < R2.length → Ev (fun k => F84.f k (P ++ M1 ++ L2 ++ R2 ++ T) mid fin b s) (P ++ M1 ++ M2 ++ T)) ∧ (¬ (0 < L2.length ∧ 0 < R2.length) → M2 = L2 ++ R2) := by
  by_cases c : 0 < L2.length ∧ 0 < R2.length
  ·obtain ⟨M, q1, q2, q3⟩ := h2 c.1 c.2 (P ++ M1) (by simp; omega) pwh3_0; exact ⟨M, q1, q2, fun _ _ => q3, fun h => absurd c h⟩
  ·refine ⟨L2 ++ R2, List.Perm.refl _, ?_, fun a b => absurd ⟨a, b⟩ c, fun _ => rfl⟩
   by_cases c1 : L2.length = 0
   ·rw [List.eq_nil_of_length_eq_zero c1]; simpa using hR2
   ·have c2 : R2.length = 0 := by omega
    rw [List.eq_nil_of_length_eq_zero c2]; simpa using hL2
 refine ⟨M1 ++ M2, m1.append n1, List.pairwise_append.2 ⟨m2, n2, fun x hx y hy => ?_⟩, ?_⟩
 ·rcases List.mem_append.1 (m1.mem_iff.1 hx) with hx | hx <;> rcases List.mem_append.1 (n1.mem_iff.1 hy) with hy | hy
  ·exact f1 x hx y hy
  ·exact f2 x hx y hy
  ·exact f3 x hx y hy
  ·exact f4 x hx y hy
 have key : Ev (fun k => if fin > mid then (if fin < b then ((F84.f k (P ++ M1 ++ L2 ++ R2 ++ T) mid fin b s).bind fun t => some t) else some (P ++ M1 ++ L2 ++ R2 ++ T)) else some (P ++ M1 ++ L2 ++ R2 ++ T)) (P ++ (M1 ++ M2) ++ T) := by
  by_cases c1 : fin > mid
  ·by_cases c2 : fin < b
   ·simp only [if_pos c1, if_pos c2]; refine Ev.bind (n3 (by omega) (by omega)) ?_
    simpa using Ev.const _
   ·simp only [if_pos c1, if_neg c2]; rw [n4 (by omega)]
    simpa using Ev.const _
  ·simp only [if_neg c1]; rw [n4 (by omega)]
   simpa using Ev.const _
 have key2 : Ev (fun k => F84.j8 k (P ++ L1 ++ R1 ++ L2 ++ R2 ++ T) a b mid start fin (decide (a < start ∧ start < mid)) s) (P ++ (M1 ++ M2) ++ T) := by
  refine Ev.succ ?_
  by_cases c : a < start ∧ start < mid
  ·simp only [F84.j8, decide_eq_true c, if_true]; refine Ev.bind (m3 (by omega) (by omega)) ?_; exact key
  ·simp only [F84.j8, decide_eq_false c, Bool.false_eq_true, if_false]; have e := m4 (by omega); rw [show P ++ L1 ++ R1 ++ L2 ++ R2 ++ T = P ++ M1 ++ L2 ++ R2 ++ T by rw [e]; simp]; exact key
 refine Ev.succ ?_
 by_cases c1 : a < start
 ·simp only [F84.j7, if_pos c1]
  simpa [c1] using key2
 ·simp only [F84.j7, if_neg c1]
  simpa [c1] using key2
theorem F84.search (s : List Int) (lt : Int → Int → Prop) (o : Tot lt) (P L R T : List Int) (a m b mid n st r : Int) (ha : a = (P.length : Int)) (hm : m = a + L.length) (hb : b = m + R.length) (hL : L.Pairwise lt) (hR : R.Pairwise lt) (hc : ∀ x ∈ L, ∀ y ∈ R, Cm s lt x y) (hs : (P ++ L ++ R ++ T).length < 1000000)
  (hn : n = mid + m) (h0 : a ≤ st) (h1 : st ≤ r) (h2 : r ≤ m) (h3 : n - st ≤ b) (h4 : m ≤ n - r) :
  ∃ t, st ≤ t ∧ t ≤ r ∧ (∀ c, st ≤ c → c < t → lt (rd (P ++ L ++ R ++ T) c) (rd (P ++ L ++ R ++ T) (n - 1 - c))) ∧ (∀ c, t ≤ c → c < r → lt (rd (P ++ L ++ R ++ T) (n - 1 - c)) (rd (P ++ L ++ R ++ T) c)) ∧
   ∀ X, Ev (fun k => F84.j6 k (P ++ L ++ R ++ T) a m b mid t (n - t) (decide (t < m ∧ m < n - t)) s) X → Ev (fun k => F84.l4 k (P ++ L ++ R ++ T) a m b mid n st r (n - 1) s) X := by
 have hs' : P.length + L.length + R.length + T.length < 1000000 := by simp only [List.length_append] at hs; omega
 have hlen : ((P ++ L ++ R ++ T).length : Int) = P.length + L.length + R.length + T.length := by simp only [List.length_append]; omega
 have hmL : ∀ c, a ≤ c → c < m → rd (P ++ L ++ R ++ T) c ∈ L := fun c c0 c1 => by
  rw [show P ++ L ++ R ++ T = P ++ L ++ (R ++ T) by simp]; exact rd_mem P L _ c (by omega) (by omega)
 have hmR : ∀ c, m ≤ c → c < b → rd (P ++ L ++ R ++ T) c ∈ R := fun c c0 c1 => rd_mem (P ++ L) R T c pwh3_1 pwh3_1
 have hlL : ∀ c d, a ≤ c → c < d → d < m → lt (rd (P ++ L ++ R ++ T) c) (rd (P ++ L ++ R ++ T) d) := fun c d c0 c1 c2 => by
  rw [show P ++ L ++ R ++ T = P ++ L ++ (R ++ T) by simp]; exact rd_lt P L _ hL c d (by omega) c1 (by omega)
 have hlR : ∀ c d, m ≤ c → c < d → d < b → lt (rd (P ++ L ++ R ++ T) c) (rd (P ++ L ++ R ++ T) d) := fun c d c0 c1 c2 => rd_lt (P ++ L) R T hR c d pwh3_1 c1 pwh3_1
 obtain ⟨t, t1, t2, t3, t4, t5⟩ := bsearch (fun i j k => F84.l4 k (P ++ L ++ R ++ T) a m b mid n i j (n - 1) s) (fun t k => F84.j6 k (P ++ L ++ R ++ T) a m b mid t (n - t) (decide (t < m ∧ m < n - t)) s) (fun c => ¬ lt (rd (P ++ L ++ R ++ T) (n - 1 - c)) (rd (P ++ L ++ R ++ T) c)) st r
  (fun i j X i0 ij j0 q h => by
   refine Ev.succ ?_; have e := F84.mid (i := i) (j := j) (by omega) (by omega) (by omega); have e2 : wrap64 ((i + j) / 2 + 1) = (i + j) / 2 + 1 := w64 (by omega) (by omega); have e3 : wrap64 (n - 1 - (i + j) / 2) = n - 1 - (i + j) / 2 := w64 (by omega) (by omega); obtain ⟨_, v, hv, hvl⟩ := hc _ (hmL ((i + j) / 2) (by omega) (by omega)) _ (hmR (n - 1 - (i + j) / 2) (by omega) (by omega)); have hv0 : ¬ v < 0 := fun k => q (hvl.1 k); have g1 : 0 ≤ (i + j) / 2 := by omega
   have g2 : (i + j) / 2 < ((P ++ L ++ R ++ T).length : Int) := by omega
   have g3 : 0 ≤ n - 1 - (i + j) / 2 := by omega
   have g4 : n - 1 - (i + j) / 2 < ((P ++ L ++ R ++ T).length : Int) := by omega
   simp only [F84.l4, e, e2, e3, if_pos ij, if_pos g1, if_pos g2, if_pos g3, if_pos g4, hv, Option.bind_some, if_neg hv0]; exact h)
  (fun i j X i0 ij j0 q h => by
   refine Ev.succ ?_; have e := F84.mid (i := i) (j := j) (by omega) (by omega) (by omega); have e3 : wrap64 (n - 1 - (i + j) / 2) = n - 1 - (i + j) / 2 := w64 (by omega) (by omega); obtain ⟨_, v, hv, hvl⟩ := hc _ (hmL ((i + j) / 2) (by omega) (by omega)) _ (hmR (n - 1 - (i + j) / 2) (by omega) (by omega)); have hv0 : v < 0 := hvl.2 (Classical.not_not.1 q); have g1 : 0 ≤ (i + j) / 2 := by omega
   have g2 : (i + j) / 2 < ((P ++ L ++ R ++ T).length : Int) := by omega
   have g3 : 0 ≤ n - 1 - (i + j) / 2 := by omega
   have g4 : n - 1 - (i + j) / 2 < ((P ++ L ++ R ++ T).length : Int) := by omega
   simp only [F84.l4, e, e3, if_pos ij, if_pos g1, if_pos g2, if_pos g3, if_pos g4, hv, Option.bind_some, if_pos hv0]; exact h)
  (fun i X i0 j0 h => by
   refine Ev.succ ?_; have e3 : wrap64 (n - i) = n - i := w64 (by omega) (by omega)
   by_cases c : i < m
   ·simp only [F84.l4, if_neg (Int.lt_irrefl i), if_pos c, e3]
    simpa [c] using h
   ·simp only [F84.l4, if_neg (Int.lt_irrefl i), if_neg c, e3]
    simpa [c] using h)
  (fun c d c0 c1 c2 q k => q (o.trans _ _ _ (hlR (n - 1 - d) (n - 1 - c) (by omega) (by omega) (by omega)) (o.trans _ _ _ k (hlL c d (by omega) c1 (by omega))))) _ st r (Nat.le_refl _) h1 (Int.le_refl _) (Int.le_refl _) (fun c c0 c1 => by omega) (fun c c0 c1 => by omega)
 refine ⟨t, t1, t2, fun c c0 c1 => ?_, fun c c0 c1 => Classical.not_not.1 (t4 c c0 c1), t5⟩; exact (o.tot _ _ (hc _ (hmL c (by omega) (by omega)) _ (hmR (n - 1 - c) (by omega) (by omega))).1).resolve_right (t3 c c0 c1)
theorem F84.merge (s : List Int) (lt : Int → Int → Prop) (o : Tot lt) : ∀ (N : Nat) (P L R T : List Int) (a m b : Int), L.length + R.length ≤ N → 0 < L.length → 0 < R.length → a = (P.length : Int) → m = a + L.length → b = m + R.length → L.Pairwise lt → R.Pairwise lt → (∀ x ∈ L, ∀ y ∈ R, Cm s lt x y) → (P ++ L ++ R ++ T).length < 1000000 → F84.Ok s lt P L R T a m b
 | 0, P, L, R, T, a, m, b, hN, h0, h1, _, _, _, _, _, _, _ => by omega
 | N + 1, P, L, R, T, a, m, b, hN, h0, h1, ha, hm, hb, hL, hR, hc, hs => by
  have hs' : P.length + L.length + R.length + T.length < 1000000 := by simp only [List.length_append] at hs; omega
  have e1 : wrap64 (m - a) = m - a := w64 (by omega) (by omega); have e2 : wrap64 (b - m) = b - m := w64 (by omega) (by omega)
  by_cases c1 : m - a = 1
  ·obtain ⟨u, rfl⟩ := List.length_eq_one_iff.1 (show L.length = 1 by omega); obtain ⟨M, q1, q2, q3⟩ := F84.one_left s lt o P R T u a m b ha (by omega) hb hR (fun y hy => hc u (by simp) y hy) hs; refine ⟨M, q1, q2, Ev.succ ?_⟩; simp only [F84.f, e1, if_pos c1]; exact q3
  by_cases c2 : b - m = 1
  ·obtain ⟨u, rfl⟩ := List.length_eq_one_iff.1 (show R.length = 1 by omega); obtain ⟨M, q1, q2, q3⟩ := F84.one_right s lt o P L T u a m b ha hm hL (fun x hx => hc x hx u (by simp)) hs; refine ⟨M, q1, q2, Ev.succ ?_⟩; simp only [F84.f, e1, e2, if_neg c1, if_pos c2]; exact q3
  have em := F84.mid (i := a) (j := b) (by omega) (by omega) (by omega); obtain ⟨mid, hmid⟩ : ∃ mid, mid = (a + b) / 2 := ⟨_, rfl⟩; rw [← hmid] at em; have e3 : wrap64 (mid + m) = mid + m := w64 (by omega) (by omega); have e4 : wrap64 (mid + m - b) = mid + m - b := w64 (by omega) (by omega); have e5 : wrap64 (mid + m - 1) = mid + m - 1 := w64 (by omega) (by omega)
  have fol : ∀ t st r : Int, a ≤ st → st ≤ t → t ≤ r → r ≤ m → t ≤ mid → mid + m - t ≤ b → (∀ c, st ≤ c → c < t → lt (rd (P ++ L ++ R ++ T) c) (rd (P ++ L ++ R ++ T) (mid + m - 1 - c))) → (∀ c, t ≤ c → c < r → lt (rd (P ++ L ++ R ++ T) (mid + m - 1 - c)) (rd (P ++ L ++ R ++ T) c)) → (st = a ∨ mid + m - st = b) → (r = m ∨ r = mid) →
    ∃ M, M.Perm (L ++ R) ∧ M.Pairwise lt ∧ Ev (fun k => F84.j6 k (P ++ L ++ R ++ T) a m b mid t (mid + m - t) (decide (t < m ∧ m < mid + m - t)) s) (P ++ M ++ T) := by
   intro t st r u0 u1 u2 u3 u4 u5 k1 k2 k3 k4
   have hmL : ∀ c d, a ≤ c → c < d → d < m → lt (rd (P ++ L ++ R ++ T) c) (rd (P ++ L ++ R ++ T) d) := fun c d c0 c1 c2 => by
    rw [show P ++ L ++ R ++ T = P ++ L ++ (R ++ T) by simp]; exact rd_lt P L _ hL c d (by omega) c1 (by omega)
   have hmR : ∀ c d, m ≤ c → c < d → d < b → lt (rd (P ++ L ++ R ++ T) c) (rd (P ++ L ++ R ++ T) d) := fun c d c0 c1 c2 => rd_lt (P ++ L) R T hR c d pwh3_1 c1 pwh3_1
   have A : ∀ c d, a ≤ c → c < t → mid + m - t ≤ d → d < b → lt (rd (P ++ L ++ R ++ T) c) (rd (P ++ L ++ R ++ T) d) := fun c d c0 c1 d0 d1 => by
    have z := k1 (t - 1) (by omega) (by omega); rw [show mid + m - 1 - (t - 1) = mid + m - t by omega] at z; have z1 : c = t - 1 ∨ c < t - 1 := by omega
    have z2 : d = mid + m - t ∨ mid + m - t < d := by omega
    rcases z1 with rfl | z1 <;> rcases z2 with rfl | z2
    ·exact z
    ·exact o.trans _ _ _ z (hmR _ _ (by omega) z2 d1)
    ·exact o.trans _ _ _ (hmL _ _ c0 z1 (by omega)) z
    ·exact o.trans _ _ _ (hmL _ _ c0 z1 (by omega)) (o.trans _ _ _ z (hmR _ _ (by omega) z2 d1))
   have B : ∀ c d, m ≤ c → c < mid + m - t → t ≤ d → d < m → lt (rd (P ++ L ++ R ++ T) c) (rd (P ++ L ++ R ++ T) d) := fun c d c0 c1 d0 d1 => by
    have z := k2 t (by omega) (by omega); have z1 : c = mid + m - 1 - t ∨ c < mid + m - 1 - t := by omega
    have z2 : d = t ∨ t < d := by omega
    rcases z1 with rfl | z1 <;> rcases z2 with rfl | z2
    ·exact z
    ·exact o.trans _ _ _ z (hmL _ _ (by omega) z2 d1)
    ·exact o.trans _ _ _ (hmR _ _ c0 z1 (by omega)) z
    ·exact o.trans _ _ _ (hmR _ _ c0 z1 (by omega)) (o.trans _ _ _ z (hmL _ _ (by omega) z2 d1))
   obtain ⟨L1, L2, rfl, l1, l2⟩ := split_at L (t - a).toNat (by omega); obtain ⟨R1, R2, rfl, l3, l4⟩ := split_at R (mid - t).toNat (by omega); simp only [List.length_append] at hm hb hN h0 h1 l2 l4 hs'; obtain ⟨p1, p2, p3⟩ := List.pairwise_append.1 hL; obtain ⟨p4, p5, p6⟩ := List.pairwise_append.1 hR
   have f2 : ∀ x ∈ L1, ∀ y ∈ R2, lt x y := fun x hx y hy => by
    obtain ⟨c, c0, c1, e⟩ := mem_rd P L1 (L2 ++ R1 ++ R2 ++ T) x hx; obtain ⟨d, d0, d1, e'⟩ := mem_rd (P ++ L1 ++ L2 ++ R1) R2 T y hy; simp only [List.length_append] at d0 d1; have z := A c d (by omega) (by omega) (by omega) (by omega); rw [show P ++ (L1 ++ L2) ++ (R1 ++ R2) ++ T = P ++ L1 ++ (L2 ++ R1 ++ R2 ++ T) by simp, e, show P ++ L1 ++ (L2 ++ R1 ++ R2 ++ T) = P ++ L1 ++ L2 ++ R1 ++ R2 ++ T by simp, e'] at z; exact z
   have f3 : ∀ x ∈ R1, ∀ y ∈ L2, lt x y := fun x hx y hy => by
    obtain ⟨c, c0, c1, e⟩ := mem_rd (P ++ L1 ++ L2) R1 (R2 ++ T) x hx; obtain ⟨d, d0, d1, e'⟩ := mem_rd (P ++ L1) L2 (R1 ++ R2 ++ T) y hy; simp only [List.length_append] at c0 c1 d0 d1; have z := B c d (by omega) (by omega) (by omega) (by omega); rw [show P ++ (L1 ++ L2) ++ (R1 ++ R2) ++ T = P ++ L1 ++ L2 ++ R1 ++ (R2 ++ T) by simp, e, show P ++ L1 ++ L2 ++ R1 ++ (R2 ++ T) = P ++ L1 ++ L2 ++ (R1 ++ R2 ++ T) by simp, e'] at z; exact z
   obtain ⟨M, q1, q2, q3⟩ := F84.tail s lt P L1 R1 L2 R2 T a mid t (mid + m - t) b ha (by omega) (by omega) (by omega) (by omega) p1 p4 p2 p5 p3 f2 f3 p6
    (fun v0 v1 T' hT => F84.merge s lt o N P L1 R1 T' a t mid (by omega) v0 v1 ha (by omega) (by omega) p1 p4 (fun x hx y hy => hc x (by simp [hx]) y (by simp [hy])) hT)
    (fun v0 v1 P' hP' hT => F84.merge s lt o N P' L2 R2 T mid (mid + m - t) b (by omega) v0 v1 hP' (by omega) (by omega) p2 p5 (fun x hx y hy => hc x (by simp [hx]) y (by simp [hy])) hT)
    pwh3_0
   refine ⟨M, q1.trans ?_, q2, Ev.succ ?_⟩
   ·simp only [List.append_assoc]; refine List.Perm.append_left L1 ?_; rw [← List.append_assoc, ← List.append_assoc]; exact List.Perm.append_right R2 List.perm_append_comm
   ·by_cases c : t < m ∧ m < mid + m - t
    ·simp only [F84.j6, decide_eq_true c, if_true]; have z := F85.f_rot s (P ++ L1) L2 R1 (R2 ++ T) t m (mid + m - t) (by omega) (by omega) pwh3_0 pwh3_0 pwh3_0 pwh3_0; refine Ev.bind (a := P ++ L1 ++ R1 ++ L2 ++ R2 ++ T) ?_ q3
     simpa using z
    ·simp only [F84.j6, decide_eq_false c, Bool.false_eq_true, if_false]
     have z : L2 ++ R1 = R1 ++ L2 := by
      by_cases d : L2.length = 0
      ·rw [List.eq_nil_of_length_eq_zero d]; simp
      ·rw [List.eq_nil_of_length_eq_zero (show R1.length = 0 by omega)]; simp
     rw [show P ++ (L1 ++ L2) ++ (R1 ++ R2) ++ T = P ++ L1 ++ (L2 ++ R1) ++ R2 ++ T by simp, z]
     simpa using q3
  by_cases c3 : m > mid
  ·obtain ⟨t, t1, t2, t3, t4, t5⟩ := F84.search s lt o P L R T a m b mid (mid + m) (mid + m - b) mid ha hm hb hL hR hc hs rfl (by omega) (by omega) (by omega) (by omega) (by omega); obtain ⟨M, q1, q2, q3⟩ := fol t (mid + m - b) mid (by omega) t1 t2 (by omega) (by omega) (by omega) t3 t4 (by omega) (by omega); refine ⟨M, q1, q2, Ev.succ ?_⟩; simp only [F84.f, e1, e2, em, e3, e4, if_neg c1, if_neg c2, if_pos c3]; refine Ev.succ ?_; simp only [F84.j4, e5]; exact t5 _ q3
  ·obtain ⟨t, t1, t2, t3, t4, t5⟩ := F84.search s lt o P L R T a m b mid (mid + m) a m ha hm hb hL hR hc hs rfl (by omega) (by omega) (by omega) (by omega) (by omega); obtain ⟨M, q1, q2, q3⟩ := fol t a m (by omega) t1 t2 (by omega) (by omega) (by omega) t3 t4 (by omega) (by omega); refine ⟨M, q1, q2, Ev.succ ?_⟩; simp only [F84.f, e1, e2, em, e3, e4, if_neg c1, if_neg c2, if_neg c3]; refine Ev.succ ?_; simp only [F84.j4, e5]; exact t5 _ q3
inductive F82.Ch (lt : Int → Int → Prop) (bs : Nat) : List Int → List Int → Prop
 | last (x0 x : List Int) : x.length ≤ bs → x.Perm x0 → x.Pairwise lt → F82.Ch lt bs x0 x
 | cons (b0 b y0 y : List Int) : b.length = bs → b.Perm b0 → b.Pairwise lt → F82.Ch lt bs y0 y → F82.Ch lt bs (b0 ++ y0) (b ++ y)
theorem F82.Ch.perm {lt : Int → Int → Prop} {bs : Nat} {x0 x : List Int} (h : F82.Ch lt bs x0 x) : x.Perm x0 := by
 induction h with
 | last _ _ _ p _ => exact p
 | cons _ _ _ _ _ p _ _ ih => exact p.append ih
theorem F82.Ch.small {lt : Int → Int → Prop} {bs : Nat} {x0 x : List Int} (h : F82.Ch lt bs x0 x) (hb : 0 < bs) (hx : x.length ≤ bs) : x.Pairwise lt := by
 cases h with
 | last _ _ _ _ q => exact q
 | cons b0 b y0 y l p q c =>
  have : y.length = 0 := by rw [List.length_append] at hx; omega
  rw [List.eq_nil_of_length_eq_zero this]
  simpa using q
theorem F82.ins (s : List Int) (lt : Int → Int → Prop) (o : Tot lt) (bs : Nat) (hbs : 0 < bs) (hbs' : bs < 1000000) : ∀ (N : Nat) (P Y : List Int) (a n : Int), Y.length ≤ N → a = (P.length : Int) → n = a + Y.length → Y.Pairwise (Cm s lt) → (P ++ Y).length < 1000000 →
  ∃ Y', F82.Ch lt bs Y Y' ∧ ∀ r, Ev (fun k => F82.l1 k (P ++ Y') n bs s) r → Ev (fun k => F82.l0 k (P ++ Y) n bs a (a + bs) s) r
 | N, P, Y, a, n, hN, ha, hn, hY, hs => by
  have hs' : P.length + Y.length < 1000000 := by simpa using hs
  by_cases c : a + bs ≤ n
  ·obtain ⟨N, rfl⟩ : ∃ M, N = M + 1 := ⟨N - 1, by omega⟩; obtain ⟨Y1, Y2, rfl, l1, l2⟩ := split_at Y bs (by omega); simp only [List.length_append] at hn hN hs'; obtain ⟨p1, p2, p3⟩ := List.pairwise_append.1 hY; obtain ⟨M, q1, q2, q3⟩ := F83.f_sort s lt o a (a + bs) P Y1 Y2 ha (by omega) p1 pwh3_0; have hM : M.length = bs := by rw [q1.length_eq]; exact l1
   obtain ⟨Y', r1, r2⟩ := F82.ins s lt o bs hbs hbs' N (P ++ M) Y2 (a + bs) n (by omega) pwh3_1 (by omega) p2 pwh3_0; refine ⟨M ++ Y', .cons _ _ _ _ hM q1 q2 r1, fun r h => Ev.succ ?_⟩; have e1 : wrap64 (a + bs + bs) = a + bs + bs := w64 (by omega) (by omega); simp only [F82.l0, if_pos c, e1]; refine Ev.bind (a := P ++ M ++ Y2) (by simpa using q3) ?_; exact r2 r (by simpa using h)
  ·obtain ⟨M, q1, q2, q3⟩ := F83.f_sort s lt o a n P Y [] ha hn hY (by simpa using hs); have hM : M.length = Y.length := q1.length_eq; refine ⟨M, .last _ _ (by omega) q1 q2, fun r h => Ev.succ ?_⟩; simp only [F82.l0, if_neg c]; refine Ev.bind (a := P ++ M) (by simpa using q3) h
theorem F82.mrg (s : List Int) (lt : Int → Int → Prop) (o : Tot lt) (bs : Nat) (hbs : 0 < bs) (hbs' : bs < 1000000) : ∀ (N : Nat) (P Y0 Y : List Int) (a n : Int), Y.length ≤ N → F82.Ch lt bs Y0 Y → a = (P.length : Int) → n = a + Y.length → Y0.Pairwise (Cm s lt) → (P ++ Y).length < 1000000 →
  ∃ Y', F82.Ch lt (2 * bs) Y0 Y' ∧ ∀ r, Ev (fun k => F82.l1 k (P ++ Y') n ((2 * bs : Nat) : Int) s) r → Ev (fun k => F82.l2 k (P ++ Y) n bs a (a + 2 * bs) s) r := by
 intro N
 induction N with
 | zero =>
  intro P Y0 Y a n hN hC ha hn hY hs; obtain rfl : Y = [] := List.eq_nil_of_length_eq_zero (by omega); refine ⟨[], .last _ _ (by simp) hC.perm List.Pairwise.nil, fun r h => Ev.succ ?_⟩; have g : ¬ a + 2 * bs ≤ n := by simp at hn; omega
  have e1 : wrap64 (a + bs) = a + bs := w64 (by simp at hs; omega) (by simp at hs; omega); have g2 : ¬ a + bs < n := by simp at hn; omega
  have e2 : wrap64 ((bs : Int) * 2) = ((2 * bs : Nat) : Int) := by rw [w64 (by omega) (by omega)]; omega
  simp only [F82.l2, if_neg g, e1, if_neg g2, e2]; exact h
 | succ N ih =>
  intro P Y0 Y a n hN hC ha hn hY hs; have hs' : P.length + Y.length < 1000000 := by simpa using hs
  have e1 : wrap64 (a + bs) = a + bs := w64 (by omega) (by omega); have e2 : wrap64 ((bs : Int) * 2) = ((2 * bs : Nat) : Int) := by rw [w64 (by omega) (by omega)]; omega
  have e3 : wrap64 (2 * (bs : Int)) = 2 * bs := w64 (by omega) (by omega); have e4 : wrap64 (a + 2 * bs + 2 * bs) = a + 2 * bs + 2 * bs := w64 (by omega) (by omega)
  cases hC with
  | last _ _ hl hp hq =>
   refine ⟨Y, .last _ _ (by omega) hp hq, fun r h => Ev.succ ?_⟩; have g : ¬ a + 2 * bs ≤ n := by omega
   have g2 : ¬ a + bs < n := by omega
   simp only [F82.l2, if_neg g, e1, if_neg g2, e2]; exact h
  | cons b0 b1 y0 y hl hp hq hC' =>
   rw [List.length_append] at hn hN hs'; obtain ⟨p1, p2, p3⟩ := List.pairwise_append.1 hY
   cases hC' with
   | last _ _ hl2 hp2 hq2 =>
    by_cases c0 : y.length = 0
    ·obtain rfl : y = [] := List.eq_nil_of_length_eq_zero c0; refine ⟨b1 ++ [], .last _ _ (by simp; omega) (hp.append hp2) (by simpa using hq), fun r h => Ev.succ ?_⟩; have g : ¬ a + 2 * bs ≤ n := by simp at hn; omega
     have g2 : ¬ a + bs < n := by simp at hn; omega
     simp only [F82.l2, if_neg g, e1, if_neg g2, e2]; exact h
    ·obtain ⟨M, q1, q2, q3⟩ := F84.merge s lt o (b1.length + y.length) P b1 y [] a (a + bs) n (Nat.le_refl _) (by omega) (by omega) ha (by omega) (by omega) hq hq2 (fun x hx z hz => p3 x (hp.mem_iff.1 hx) z (hp2.mem_iff.1 hz)) (by simp only [List.length_append, List.length_nil]; omega); have hM : M.length = b1.length + y.length := by rw [q1.length_eq, List.length_append]
     simp only [List.append_nil] at q3; refine ⟨M, .last _ _ (by omega) (q1.trans (hp.append hp2)) q2, fun r h => Ev.succ ?_⟩
     by_cases c1 : y.length = bs
     ·have g : a + 2 * bs ≤ n := by omega
      have en : n = a + 2 * bs := by omega
      simp only [F82.l2, if_pos g, e1, e3, e4]; refine Ev.bind (a := P ++ M) ?_ (Ev.succ ?_)
      ·rw [← en]; simpa using q3
      ·have g3 : ¬ a + 2 * bs + 2 * bs ≤ n := by omega
       have e5 : wrap64 (a + 2 * bs + bs) = a + 2 * bs + bs := w64 (by omega) (by omega); have g4 : ¬ a + 2 * bs + bs < n := by omega
       simp only [F82.l2, if_neg g3, e5, if_neg g4, e2]; exact h
     ·have g : ¬ a + 2 * bs ≤ n := by omega
      have g2 : a + bs < n := by omega
      simp only [F82.l2, if_neg g, e1, if_pos g2, e2]; exact Ev.bind (a := P ++ M) (by simpa using q3) h
   | cons b0' b2 z0 z hl2 hp2 hq2 hC2 =>
    rw [List.length_append] at hn hN hs'; obtain ⟨p4, p5, p6⟩ := List.pairwise_append.1 p2; obtain ⟨M, q1, q2, q3⟩ := F84.merge s lt o (b1.length + b2.length) P b1 b2 z a (a + bs) (a + 2 * bs) (Nat.le_refl _) (by omega) (by omega) ha (by omega) (by omega) hq hq2 (fun x hx w hw => p3 x (hp.mem_iff.1 hx) w (List.mem_append_left _ (hp2.mem_iff.1 hw))) pwh3_0; have hM : M.length = 2 * bs := by rw [q1.length_eq, List.length_append]; omega
    obtain ⟨Y', r1, r2⟩ := ih (P ++ M) z0 z (a + 2 * bs) n (by omega) hC2 pwh3_1 (by omega) p5 pwh3_0; refine ⟨M ++ Y', ?_, fun r h => Ev.succ ?_⟩
    ·rw [← List.append_assoc]; exact .cons _ _ _ _ hM (q1.trans (hp.append hp2)) q2 r1
    ·have g : a + 2 * bs ≤ n := by omega
     simp only [F82.l2, if_pos g, e1, e3, e4]; refine Ev.bind (a := P ++ M ++ z) (by simpa using q3) ?_; exact r2 r (by simpa using h)
theorem F82.all (s : List Int) (lt : Int → Int → Prop) (o : Tot lt) (X0 : List Int) (hX : X0.Pairwise (Cm s lt)) : ∀ (N bs : Nat) (X : List Int) (n : Int), n.toNat - bs ≤ N → 0 < bs → bs < 1000000 → F82.Ch lt bs X0 X → n = X.length → X.length < 400000 →
  ∃ Z, Z.Perm X0 ∧ Z.Pairwise lt ∧ Ev (fun k => F82.l1 k X n bs s) Z
 | N, bs, X, n, hN, hb, hb', hC, hn, hs => by
  by_cases c : (bs : Int) < n
  ·obtain ⟨N, rfl⟩ : ∃ M, N = M + 1 := ⟨N - 1, by omega⟩; obtain ⟨Y', r1, r2⟩ := F82.mrg s lt o bs hb hb' X.length [] X0 X 0 n (Nat.le_refl _) hC rfl (by omega) hX (by simp; omega); have hl : Y'.length = X.length := by rw [r1.perm.length_eq, hC.perm.length_eq]
   obtain ⟨Z, z1, z2, z3⟩ := F82.all s lt o X0 hX N (2 * bs) Y' n (by omega) (by omega) (by omega) r1 (by omega) (by omega); refine ⟨Z, z1, z2, Ev.succ ?_⟩; have e3 : wrap64 (2 * (bs : Int)) = 2 * bs := w64 (by omega) (by omega); simp only [F82.l1, if_pos c, e3]; have z := r2 Z (by simpa using z3)
   simpa using z
  ·refine ⟨X, hC.perm, hC.small hb (by omega), Ev.succ ?_⟩; simp only [F82.l1, if_neg c]; exact Ev.const _
theorem F82.f_sort (s : List Int) (lt : Int → Int → Prop) (o : Tot lt) (X : List Int) (hX : X.Pairwise (Cm s lt)) (n : Int) (hn : n = X.length) (hs : X.length < 400000) :
  ∃ Z, Z.Perm X ∧ Z.Pairwise lt ∧ Ev (fun k => F82.f k X n s) Z := by
 obtain ⟨Y', r1, r2⟩ := F82.ins s lt o 20 (by omega) (by omega) X.length [] X 0 n (Nat.le_refl _) rfl (by omega) hX (by simp; omega); have hl : Y'.length = X.length := r1.perm.length_eq; obtain ⟨Z, z1, z2, z3⟩ := F82.all s lt o X hX _ 20 Y' n (Nat.le_refl _) (by omega) (by omega) r1 (by omega) (by omega); refine ⟨Z, z1, z2, ?_⟩; have := r2 Z (by simpa using z3)
 simpa [F82.f] using this
end Go.Proofs.YtegpappenmhndaaDoor.M
end
section
namespace Go.Proofs.YtegpappenmhndaaDoor.M
open Go.RowKit Go.Proofs.YtegpappenmhndaaDoorW.PrintWords Dv
set_option linter.unusedVariables false
set_option linter.unusedSimpArgs false
theorem F76.eq {a : Int} (h : inI a) : F76.f a = some (ab a) := by
 unfold inI at h
 unfold F76.f ab
 simp only [wrap_u64]
 split
 ·congr 1; omega
 ·congr 1; omega
theorem F75.eq {x y : Int} (h0 : 0 ≤ x) (h1 : x < 18446744073709551616) (h2 : 0 ≤ y) (h3 : y < 18446744073709551616) : F75.f x y = some (x * y / 18446744073709551616, x * y % 18446744073709551616) := by
 obtain ⟨e1, e2⟩ := mul_words x y h0 h1 h2 h3; rw [← e1, ← e2]
 rfl
theorem F77.eq {P c : Int} (h0 : 0 ≤ P) (h1 : P < 18446744073709551616 * 18446744073709551616) (hc : 0 < c) (hc1 : c < 18446744073709551616) : F77.f (P / 18446744073709551616) (P % 18446744073709551616) c = some (qh (P / 18446744073709551616) c, ql (P / 18446744073709551616) (P % 18446744073709551616) c, P % c) := by
 unfold F77.f
 rw [if_pos ⟨hc, hc1, by omega, by omega, by omega, by omega⟩, (div_words P c h0 hc).2]
theorem F79.eq {neg : Bool} {z : Int} (h0 : 0 ≤ z) (h1 : z < 18446744073709551616) : F79.f neg z = some (signv neg z) := by
 unfold F79.f signv
 cases neg with
 | true =>
  simp only [if_true]
  split
  ·rfl
  ·congr 2
   rw [wrap_u64]
   unfold wrap64
   omega
 | false =>
  simp only [Bool.false_eq_true, if_false]
  split
  ·rfl
  ·congr 2
   unfold wrap64
   omega
theorem F78.eq {mode : Int} {neg : Bool} {q r c : Int} (hq : 0 ≤ q) (hm : 1 ≤ mode ∧ mode ≤ 5) (h0 : 0 ≤ r) (h1 : r < c) (h2 : c < 18446744073709551616) : F78.f mode neg ((Int.tmod q 2) == 1) r c = some (awayv mode neg q r c) := by
 have e : IntKind.u64.wrap (c - r) = c - r := u64w (by omega) (by omega); have e2 : Int.tmod q 2 = q % 2 := Int.tmod_eq_emod_of_nonneg hq
 unfold F78.f awayv
 rw [e, e2]; have hmm : mode = 1 ∨ mode = 2 ∨ mode = 3 ∨ mode = 4 ∨ mode = 5 := by omega
 by_cases hr : r = 0
 ·simp [hr]
 ·rcases hmm with rfl | rfl | rfl | rfl | rfl <;> simp [hr]
  by_cases h3 : r > c - r
  ·have h4 : c - r < r := h3
   simp [h3, h4]
  ·have h4 : ¬ c - r < r := h3
   by_cases h5 : r = c - r
   ·rw [if_neg h3, if_pos h5]
    simp [h4, ← h5]
    by_cases h6 : q % 2 = 1 <;> simp [h6]
   ·simp [h3, h4, h5]
theorem negv_pos {a b c : Int} (h : negv a b c = true) : a * b ≠ 0 := by
 unfold negv at h
 simp at h
 intro k
 rcases Int.mul_eq_zero.1 k with z | z <;> simp [z] at h
theorem signv_big {neg : Bool} {z : Int} (h : 18446744073709551616 ≤ z) : signv neg z = (0, 4) := by
 unfold signv
 cases neg
 ·simp; omega
 ·simp; omega
theorem negv_eq {a b c : Int} : negv a b c = if (decide (ab a * ab b = 0)) = true then false else (((decide (a < 0)) != (decide (b < 0))) != (decide (c < 0))) := by
 unfold negv
 have e : (ab a * ab b = 0) ↔ (a * b = 0) := by
  rw [Int.mul_eq_zero, Int.mul_eq_zero, ab_zero, ab_zero]
 by_cases h : a * b = 0
 ·simp [e, h]
 ·simp [e, h]
theorem F66.eq {a b c : Int} (mode : Int) (ha : inI a) (hb : inI b) (hc : inI c) : Ev (fun k => F66.f k a b c mode) (mdv a b c mode) := by
 unfold mdv
 by_cases hm : mode < 1 ∨ mode > 5
 ·rw [if_pos hm]
  have j : Ev (fun k => F66.j0 k a b c mode true) (0, 10) := by
   refine Ev.succ ?_; simp only [F66.j0, if_true]; exact Ev.const _
  by_cases h1 : mode < 1
  ·simp only [F66.f, if_pos h1]; exact j
  ·have h2 : mode > 5 := by omega
   simp only [F66.f, if_neg h1, decide_eq_true h2]; exact j
 rw [if_neg hm]; have h1 : ¬ mode < 1 := by omega
 have h2 : ¬ mode > 5 := by omega
 simp only [F66.f, if_neg h1, decide_eq_false h2]; refine Ev.succ ?_; simp only [F66.j0, Bool.false_eq_true, if_false]
 by_cases h3 : c = 0
 ·simp only [if_pos h3]; exact Ev.const _
 have ba := ab_bound ha; have bb := ab_bound hb; have bc := ab_bound hc; have pc := ab_pos h3; have bp := prod_ab ha hb; simp only [if_neg h3, F76.eq ha, F76.eq hb, Option.bind_some, F75.eq ba.1 (show ab a < 18446744073709551616 by omega) bb.1 (show ab b < 18446744073709551616 by omega)]
 have J : ∀ neg, Ev (fun k => F66.j1 k c mode neg (ab a * ab b / 18446744073709551616) (ab a * ab b % 18446744073709551616)) (signv neg (ab a * ab b / ab c + if awayv mode neg (ab a * ab b / ab c) (ab a * ab b % ab c) (ab c) = true then 1 else 0)) := by
  intro neg; refine Ev.succ ?_; simp only [F66.j1, F76.eq hc, Option.bind_some, F77.eq bp.1 bp.2 pc (show ab c < 18446744073709551616 by omega)]; have dw := (div_words (ab a * ab b) (ab c) bp.1 pc).1; have q0 : 0 ≤ ab a * ab b / ab c := Int.ediv_nonneg bp.1 (by omega); have r0 : 0 ≤ ab a * ab b % ab c := Int.emod_nonneg _ (by omega); have r1 : ab a * ab b % ab c < ab c := Int.emod_lt_of_pos _ pc; have qz := qh_zero (ab a * ab b) (ab c) bp.1 pc; have aw := F78.eq (mode := mode) (neg := neg) q0 (by omega) r0 r1 (show ab c < 18446744073709551616 by omega)
  by_cases hz : qh (ab a * ab b / 18446744073709551616) (ab c) = 0
  ·have hq := qz.1 hz; rw [hz, Int.zero_mul, Int.zero_add] at dw; rw [dw]; simp only [if_pos hz, aw, Option.bind_some]
   by_cases haw : awayv mode neg (ab a * ab b / ab c) (ab a * ab b % ab c) (ab c) = true
   ·simp only [if_pos haw]
    by_cases hw : ab a * ab b / ab c + 1 = 18446744073709551616
    ·have e : IntKind.u64.wrap (ab a * ab b / ab c + 1) = 0 := by rw [wrap_u64, hw]; rfl
     rw [signv_big (by omega)]; simp only [e, if_true]; exact Ev.const _
    ·have e : IntKind.u64.wrap (ab a * ab b / ab c + 1) = ab a * ab b / ab c + 1 := u64w (by omega) (by omega); have e2 : ¬ ab a * ab b / ab c + 1 = 0 := by omega
     simp only [e, if_neg e2, F79.eq (neg := neg) (z := ab a * ab b / ab c + 1) (by omega) (by omega), Option.bind_some]; exact Ev.const _
   ·simp only [if_neg haw, Int.add_zero, F79.eq (neg := neg) (z := ab a * ab b / ab c) q0 hq, Option.bind_some]; exact Ev.const _
  ·have hq : ¬ ab a * ab b / ab c < 18446744073709551616 := fun k => hz (qz.2 k); rw [signv_big (by split <;> omega)]; simp only [if_neg hz]; exact Ev.const _
 unfold sizev
 rw [negv_eq]
 have hne : (!(ab a * ab b / 18446744073709551616 == 0) || (!(ab a * ab b % 18446744073709551616 == 0))) = !(decide (ab a * ab b = 0)) := by
  by_cases hp : ab a * ab b = 0
  ·simp [hp]
  ·by_cases hx : ab a * ab b / 18446744073709551616 = 0
   ·have hy : ¬ ab a * ab b % 18446744073709551616 = 0 := by omega
    simp [hp, hx, hy]
   ·simp [hp, hx]
 simp only [hne]
 by_cases hp : ab a * ab b = 0
 ·simp only [hp, decide_true, Bool.not_true, Bool.false_eq_true, if_false, if_true]; have := J false
  simpa only [hp] using this
 ·simp only [hp, decide_false, Bool.not_false, Bool.false_eq_true, if_false, if_true]; exact J _
theorem F67.eq {a b c : Int} (ha : inI a) (hb : inI b) (hc : inI c) : F67.f a b c = some (modv a b c) := by
 unfold modv F67.f
 by_cases h3 : c = 0
 ·simp only [if_pos h3]
 have ba := ab_bound ha; have bb := ab_bound hb; have bc := ab_bound hc; have pc := ab_pos h3; have bp := prod_ab ha hb; simp only [if_neg h3, F76.eq ha, F76.eq hb, F76.eq hc, Option.bind_some, F75.eq ba.1 (show ab a < 18446744073709551616 by omega) bb.1 (show ab b < 18446744073709551616 by omega), F77.eq bp.1 bp.2 pc (show ab c < 18446744073709551616 by omega)]; have r0 : 0 ≤ ab a * ab b % ab c := Int.emod_nonneg _ (by omega); have r1 : ab a * ab b % ab c < ab c := Int.emod_lt_of_pos _ pc
 have sg : a * b = if ((decide (a < 0)) != (decide (b < 0))) = true then -(ab a * ab b) else ab a * ab b := by
  unfold ab
  by_cases x : a < 0 <;> by_cases y : b < 0 <;> simp [x, y, Int.neg_mul, Int.mul_neg]
 have e1 : ∀ z : Int, 0 ≤ z → z < ab c → wrap64 z = z := fun z z0 z1 => w64 (by omega) (by omega); rw [sg]
 by_cases hz : ab a * ab b % ab c = 0
 ·simp only [if_pos hz]
  congr 2
  rw [hz]
  split
  ·rw [Int.emod_eq_zero_of_dvd (Int.dvd_neg.2 (Int.dvd_of_emod_eq_zero hz))]; exact w64 (by omega) (by omega)
  ·rw [hz]; exact w64 (by omega) (by omega)
 ·simp only [if_neg hz]
  by_cases n : ((decide (a < 0)) != (decide (b < 0))) = true
  ·simp only [if_pos n]; rw [u64w (n := ab c - ab a * ab b % ab c) (by omega) (by omega), e1 (ab c - ab a * ab b % ab c) (by omega) (by omega)]
   congr 2
   have h := Int.emod_add_mul_ediv (ab a * ab b) (ab c)
   have : -(ab a * ab b) = (ab c - ab a * ab b % ab c) + ab c * (-(ab a * ab b / ab c) - 1) := by
    rw [Int.mul_sub, Int.mul_neg]; omega
   rw [this, Int.add_mul_emod_self_left]; exact (Int.emod_eq_of_lt (by omega) (by omega)).symm
  ·simp only [if_neg n]; rw [e1 _ r0 r1]
end Go.Proofs.YtegpappenmhndaaDoor.M
end
section
namespace Go.Proofs.YtegpappenmhndaaDoor.M
open Go.RowKit Go.Proofs.YtegpappenmhndaaDoorW.PrintWords Dv
set_option linter.unusedVariables false
def shErr (a : Int) (l : List Int) : Int :=
 if l.length > 200 then 9 else if a > 1000000000000000 ∨ a < -1000000000000000 then 4 else if ∃ x ∈ l, x < 0 then 2 else if l.sum > 1000000000000000 then 4 else if l.sum = 0 then 2 else 0
theorem sum_nonneg : ∀ l : List Int, (∀ x ∈ l, 0 ≤ x) → 0 ≤ l.sum
 | [], _ => by simp
 | x :: l, h => by
  have h1 := h x (by simp); have h2 := sum_nonneg l (fun y hy => h y (by simp [hy])); simp only [List.sum_cons]; omega
theorem F74.go : ∀ (B A : List Int) (i n : Int), i = (A.length : Int) → n = (A.length : Int) + B.length → n < 1000000 → ∃ v, Ev (fun k => F74.l0 k (A ++ B) n i) v ∧ ((0 ≤ v) ↔ ∃ x ∈ B, x < 0)
 | [], A, i, n, hi, hn, hs => by
  refine ⟨-1, Ev.succ ?_, by simp⟩; have g : ¬ i < n := by simp at hn; omega
  simp only [F74.l0, if_neg g]; exact Ev.const _
 | x :: B, A, i, n, hi, hn, hs => by
  simp only [List.length_cons] at hn; have g : i < n := by omega
  have g1 : 0 ≤ i := by omega
  have g2 : i < ((A ++ x :: B).length : Int) := by simp; omega
  have r := rd_at A x B i hi; have e : wrap64 (i + 1) = i + 1 := w64 (by omega) (by omega)
  by_cases hx : x < 0
  ·refine ⟨i, Ev.succ ?_, by simp [hx, g1]⟩; simp only [F74.l0, if_pos g, if_pos g1, if_pos g2, r, F65.f, Option.bind_some, decide_eq_true hx, if_true]; exact Ev.const _
  ·obtain ⟨v, h1, h2⟩ := F74.go B (A ++ [x]) (i + 1) n (by simp; omega) (by simp; omega) hs; refine ⟨v, Ev.succ ?_, by rw [h2]; simp [hx]⟩; simp only [F74.l0, if_pos g, if_pos g1, if_pos g2, r, F65.f, Option.bind_some, decide_eq_false hx, Bool.false_eq_true, if_false, e]
   simpa using h1
theorem F64.eq (l : List Int) (h : l.length < 1000000) : Ev (fun k => F64.f k l) (decide (∃ x ∈ l, x < 0)) := by
 obtain ⟨v, h1, h2⟩ := F74.go l [] 0 l.length rfl (by simp) (by omega)
 unfold F64.f F74.f
 refine Ev.bind (by simpa using h1) ?_
 have : (decide (v ≥ 0)) = decide (∃ x ∈ l, x < 0) := by
  by_cases hx : ∃ x ∈ l, x < 0
  ·rw [decide_eq_true hx, decide_eq_true (h2.2 hx)]
  ·rw [decide_eq_false hx, decide_eq_false (fun k => hx (h2.1 k))]
 rw [this]; exact Ev.const _
def sumFrom (s : Int) (B : List Int) : Int × Int := if s + B.sum > 1000000000000000 then (0, 4) else if s + B.sum = 0 then (0, 2) else (s + B.sum, 0)
theorem F56.go : ∀ (B A : List Int) (s i n : Int), i = (A.length : Int) → n = (A.length : Int) + B.length → n < 1000000 → 0 ≤ s → s ≤ 1000000000000000 → (∀ x ∈ B, 0 ≤ x ∧ x ≤ 9223372036854775807) → Ev (fun k => F56.l0 k s (A ++ B) n i) (sumFrom s B)
 | [], A, s, i, n, hi, hn, hs, h0, h1, hB => by
  refine Ev.succ ?_; have g : ¬ i < n := by simp at hn; omega
  simp only [F56.l0, if_neg g, sumFrom, List.sum_nil, Int.add_zero, if_neg (show ¬ s > 1000000000000000 by omega)]
  split
  ·exact Ev.const _
  ·exact Ev.const _
 | x :: B, A, s, i, n, hi, hn, hs, h0, h1, hB => by
  simp only [List.length_cons] at hn; have g : i < n := by omega
  have g1 : 0 ≤ i := by omega
  have g2 : i < ((A ++ x :: B).length : Int) := by simp; omega
  have r := rd_at A x B i hi; have e : wrap64 (i + 1) = i + 1 := w64 (by omega) (by omega); have hx := hB x (by simp); have e2 : wrap64 (1000000000000000 - s) = 1000000000000000 - s := w64 (by omega) (by omega); have hBs := sum_nonneg B (fun y hy => (hB y (by simp [hy])).1); refine Ev.succ ?_
  by_cases hc : x > 1000000000000000 - s
  ·simp only [F56.l0, if_pos g, if_pos g1, if_pos g2, r, e2, if_pos hc]; have : sumFrom s (x :: B) = (0, 4) := by unfold sumFrom; rw [List.sum_cons, if_pos (by omega)]
   rw [this]; exact Ev.const _
  ·have e3 : wrap64 (s + x) = s + x := w64 (by omega) (by omega); simp only [F56.l0, if_pos g, if_pos g1, if_pos g2, r, e2, if_neg hc, e, e3]; have ih := F56.go B (A ++ [x]) (s + x) (i + 1) n (by simp; omega) (by simp; omega) hs (by omega) (by omega) (fun y hy => hB y (by simp [hy])); have : sumFrom s (x :: B) = sumFrom (s + x) B := by unfold sumFrom; rw [List.sum_cons, Int.add_assoc]
   rw [this]; simpa using ih
theorem sumFrom_zero (l : List Int) : sumFrom 0 l = if l.sum > 1000000000000000 then (0, 4) else if l.sum = 0 then (0, 2) else (l.sum, 0) := by simp [sumFrom]
theorem F56.eq (l : List Int) (hl : l.length < 1000000) (hw : ∀ x ∈ l, x ≤ 9223372036854775807) : Ev (fun k => F56.f k l) (if ∃ x ∈ l, x < 0 then (0, 2) else sumFrom 0 l) := by
 unfold F56.f
 refine Ev.bind (F64.eq l hl) ?_
 by_cases h : ∃ x ∈ l, x < 0
 ·simp only [decide_eq_true h, if_true, if_pos h]; exact Ev.const _
 ·simp only [decide_eq_false h, Bool.false_eq_true, if_false, if_neg h]
  have := F56.go l [] 0 0 l.length rfl (by simp) (by omega) (by omega) (by omega) (fun x hx => ⟨by
   have : ¬ x < 0 := fun k => h ⟨x, hx, k⟩
   omega, hw x hx⟩)
  simpa using this
def rOrd (r : List Int) (i k : Int) : Prop := rd r i > rd r k ∨ (rd r i = rd r k ∧ i < k)
theorem rOrd.tot (r : List Int) : Tot (rOrd r) where
 trans x y z h k := by unfold rOrd at *; omega
 tot x y h := by unfold rOrd; omega
 irr x h := by unfold rOrd at h; omega
def idx (n : Nat) : List Int := (List.range n).map fun (i : Nat) => (i : Int)
theorem idx_length (n : Nat) : (idx n).length = n := by simp [idx]
theorem idx_succ (n : Nat) : idx (n + 1) = idx n ++ [(n : Int)] := by simp [idx, List.range_succ]
theorem mem_idx (n : Nat) (i : Int) : i ∈ idx n ↔ 0 ≤ i ∧ i < n := by
 simp only [idx, List.mem_map, List.mem_range]
 constructor
 ·rintro ⟨j, h, rfl⟩; omega
 ·intro h; exact ⟨i.toNat, by omega, by omega⟩
theorem idx_lt (n : Nat) : (idx n).Pairwise (· < ·) := by
 unfold idx
 rw [List.pairwise_map]; exact List.pairwise_lt_range.imp (fun h => by omega)
theorem rk_ex (r : List Int) (h : r.length < 1000) : ∃ Z, Z.Perm (idx r.length) ∧ Z.Pairwise (rOrd r) ∧ Ev (fun k => F82.f k (idx r.length) r.length r) Z := by
 refine F82.f_sort r (rOrd r) (rOrd.tot r) (idx r.length) ?_ r.length (by rw [idx_length]) (by rw [idx_length]; omega); refine (List.Pairwise.and_mem.1 (idx_lt r.length)).imp ?_; rintro x y ⟨hx, hy, hxy⟩; rw [mem_idx] at hx hy; refine ⟨by omega, ?_⟩
 unfold F81.f
 simp only [if_pos hx.1, if_pos hx.2, if_pos hy.1, if_pos hy.2]
 by_cases c1 : rd r y > rd r x
 ·exact ⟨-1, by rw [if_pos c1], by unfold rOrd; constructor <;> intro <;> omega⟩
 ·by_cases c2 : rd r y < rd r x
  ·exact ⟨1, by rw [if_neg c1, if_pos c2], by unfold rOrd; constructor <;> intro <;> omega⟩
  ·exact ⟨0, by rw [if_neg c1, if_neg c2], by unfold rOrd; constructor <;> intro <;> omega⟩
open Classical in
noncomputable def rk (r : List Int) : List Int := if h : ∃ Z : List Int, Z.Perm (idx r.length) ∧ Z.Pairwise (rOrd r) then h.choose else []
theorem rk_spec (r : List Int) (h : r.length < 1000) : (rk r).Perm (idx r.length) ∧ (rk r).Pairwise (rOrd r) := by
 obtain ⟨Z, z1, z2, _⟩ := rk_ex r h; have e : ∃ Z : List Int, Z.Perm (idx r.length) ∧ Z.Pairwise (rOrd r) := ⟨Z, z1, z2⟩
 unfold rk
 rw [dif_pos e]; exact e.choose_spec
theorem rk_uniq (r Z : List Int) (h : r.length < 1000) (h1 : Z.Perm (idx r.length)) (h2 : Z.Pairwise (rOrd r)) : Z = rk r := by
 obtain ⟨r1, r2⟩ := rk_spec r h; exact List.Perm.eq_of_pairwise (le := rOrd r) (fun a b _ _ k1 k2 => absurd k2 ((rOrd.tot r).asym k1)) h2 r2 (h1.trans r1.symm)
theorem F68.fill (r : List Int) (N : Nat) (Z : List Int) (hN : N < 1000) (hZ : Ev (fun k => F82.f k (idx N) N r) Z) : ∀ (d i : Nat), i + d = N → Ev (fun k => F68.l0 k (idx i ++ List.replicate d 0) N i r) Z
 | 0, i, h => by
  obtain rfl : i = N := by omega
  refine Ev.succ ?_; have g : ¬ (i : Int) < i := by omega
  have hl : (idx i ++ List.replicate 0 (0 : Int)).length = i := by simp [idx_length]
  have g1 : (0 : Int) ≤ ((idx i ++ List.replicate 0 (0 : Int)).length : Int) := by omega
  have g2 : ((idx i ++ List.replicate 0 (0 : Int)).length : Int).toNat ≤ 35184372088832 := by omega
  simp only [F68.l0, if_neg g, if_pos g1, if_pos g2, pw_copy_37.f, Option.bind_some]
  have e : (idx i ++ List.replicate 0 (0 : Int)).take (List.replicate ((idx i ++ List.replicate 0 (0 : Int)).length : Int).toNat (0 : Int)).length ++ (List.replicate ((idx i ++ List.replicate 0 (0 : Int)).length : Int).toNat (0 : Int)).drop (idx i ++ List.replicate 0 (0 : Int)).length = idx i := by
   simp [idx_length]
   exact List.take_of_length_le (by rw [idx_length]; omega)
  rw [e]; refine Ev.bind (a := Z) ?_ (Ev.const _)
  unfold F80.f
  rw [idx_length]; exact Ev.bind hZ (Ev.const _)
 | d + 1, i, h => by
  have hl : (idx i ++ List.replicate (d + 1) (0 : Int)).length = N := by simp [idx_length]; omega
  have g : (i : Int) < N := by omega
  have g1 : (0 : Int) ≤ i := by omega
  have g2 : (i : Int) < ((idx i ++ List.replicate (d + 1) (0 : Int)).length : Int) := by omega
  have e : wrap64 ((i : Int) + 1) = ((i + 1 : Nat) : Int) := by rw [w64 (by omega) (by omega)]; omega
  refine Ev.succ ?_; simp only [F68.l0, if_pos g, if_pos g1, if_pos g2, e]
  have s1 : (idx i ++ List.replicate (d + 1) (0 : Int)).set (i : Int).toNat i = idx (i + 1) ++ List.replicate d 0 := by
   rw [List.replicate_succ, set_at _ _ _ _ _ (by rw [idx_length]), idx_succ]; simp
  rw [s1]; exact F68.fill r N Z hN hZ d (i + 1) (by omega)
theorem F68.eq (r : List Int) (h : r.length < 1000) : Ev (fun k => F68.f k r) (rk r) := by
 obtain ⟨Z, z1, z2, z3⟩ := rk_ex r h; rw [← rk_uniq r Z h z1 z2]; have g1 : (0 : Int) ≤ (r.length : Int) := by omega
 have g2 : (r.length : Int).toNat ≤ 35184372088832 := by omega
 simp only [F68.f, if_pos g1, if_pos g2, Option.bind_some]; have := F68.fill r r.length Z h z3 r.length 0 (by omega)
 simpa [idx] using this
def inc (x Y : List Int) : List Int := Y.foldl (fun x y => x.set y.toNat (rd x y + 1)) x
theorem inc_cons (x : List Int) (y : Int) (Y : List Int) : inc x (y :: Y) = inc (x.set y.toNat (rd x y + 1)) Y := rfl
theorem inc_length : ∀ (Y x : List Int), (inc x Y).length = x.length
 | [], x => rfl
 | y :: Y, x => by rw [inc_cons, inc_length Y]; simp
theorem rd_set (x : List Int) (i j v : Int) (hi : 0 ≤ i) (hi2 : i < x.length) (hj : 0 ≤ j) : rd (x.set i.toNat v) j = if j = i then v else rd x j := by
 unfold rd
 rw [List.getD_eq_getElem?_getD, List.getElem?_set]
 by_cases h : j = i
 ·subst h; rw [if_pos rfl, if_pos (by omega), if_pos rfl]; rfl
 ·rw [if_neg (by omega), if_neg h, List.getD_eq_getElem?_getD]
theorem rd_inc : ∀ (Y x : List Int) (i : Int), Y.Nodup → (∀ y ∈ Y, 0 ≤ y ∧ y < x.length) → 0 ≤ i → rd (inc x Y) i = rd x i + if i ∈ Y then 1 else 0
 | [], x, i, _, _, _ => by simp [inc]
 | y :: Y, x, i, hn, hy, hi => by
  obtain ⟨n1, n2⟩ := List.nodup_cons.1 hn; have h0 := hy y (by simp); rw [inc_cons, rd_inc Y _ i n2 (fun z hz => by rw [List.length_set]; exact hy z (by simp [hz])) hi, rd_set x y i _ h0.1 h0.2 hi]
  by_cases h : i = y
  ·subst h; simp [n1]
  ·simp [h]
theorem rd_mem' (x : List Int) (i : Int) (h0 : 0 ≤ i) (h1 : i < x.length) : rd x i ∈ x := by
 have := rd_mem [] x [] i (by simpa using h0) (by simpa using h1)
 simpa using this
theorem mem_set' {x : List Int} {n : Nat} {v w : Int} (h : w ∈ x.set n v) : w = v ∨ w ∈ x := by
 rcases List.mem_or_eq_of_mem_set h with h | h
 ·exact .inr h
 ·exact .inl h
theorem F57.go1 : ∀ (Y2 Y1 x : List Int) (n i : Int), i = (Y1.length : Int) → n = (Y1.length : Int) + Y2.length → n < 1000000 → (∀ y ∈ Y2, 0 ≤ y ∧ y < x.length) → (∀ v ∈ x, 0 ≤ v ∧ v + Y2.length ≤ 9000000000000000000) → Ev (fun k => F57.l1 k x (Y1 ++ Y2) n i) (inc x Y2)
 | [], Y1, x, n, i, hi, hn, hs, hy, hv => by
  refine Ev.succ ?_; have g : ¬ i < n := by simp at hn; omega
  simp only [F57.l1, if_neg g]; exact Ev.const _
 | y :: Y2, Y1, x, n, i, hi, hn, hs, hy, hv => by
  simp only [List.length_cons] at hn hv; have h0 := hy y (by simp); have g : i < n := by omega
  have g1 : 0 ≤ i := by omega
  have g2 : i < ((Y1 ++ y :: Y2).length : Int) := by simp; omega
  have r := rd_at Y1 y Y2 i hi; have hm := hv _ (rd_mem' x y h0.1 h0.2); have e : wrap64 (i + 1) = i + 1 := w64 (by omega) (by omega); have e2 : wrap64 (rd x y + 1) = rd x y + 1 := w64 (by omega) (by omega); refine Ev.succ ?_; simp only [F57.l1, if_pos g, if_pos g1, if_pos g2, r, if_pos h0.1, if_pos h0.2, e, e2]
  have ih := F57.go1 Y2 (Y1 ++ [y]) (x.set y.toNat (rd x y + 1)) n (i + 1) (by simp; omega) (by simp; omega) hs (fun z hz => by rw [List.length_set]; exact hy z (by simp [hz])) (fun v hvm => by
   rcases mem_set' hvm with rfl | h
   ·omega
   ·have := hv v h; omega)
  rw [inc_cons]
  simpa using ih
def qs (s t : Int) (l : List Int) : List Int := l.map fun w => s * w / t
def rs (s t : Int) (l : List Int) : List Int := l.map fun w => s * w % t
theorem mdv_down {s w t : Int} (h0 : 0 ≤ s) (h1 : s ≤ 1000000000000000) (h2 : 0 ≤ w) (h3 : w ≤ t) (h4 : 0 < t) : mdv s w t 1 = (s * w / t, 0) ∧ 0 ≤ s * w / t ∧ s * w / t ≤ s := by
 have hp : 0 ≤ s * w := Int.mul_nonneg h0 h2; have q0 : 0 ≤ s * w / t := Int.ediv_nonneg hp (by omega)
 have q1 : s * w / t ≤ s := by
  have : s * w ≤ s * t := Int.mul_le_mul_of_nonneg_left h3 h0; have h5 := Int.ediv_le_ediv h4 this
  rwa [Int.mul_ediv_cancel _ (by omega)] at h5
 refine ⟨?_, q0, q1⟩
 unfold mdv
 rw [if_neg (by omega), if_neg (by omega)]
 have n : negv s w t = false := by
  unfold negv
  rw [decide_eq_false (show ¬ s < 0 by omega), decide_eq_false (show ¬ w < 0 by omega), decide_eq_false (show ¬ t < 0 by omega)]
  simp
 have z : sizev s w t 1 = s * w / t := by
  unfold sizev awayv ab
  rw [if_neg (show ¬ s < 0 by omega), if_neg (show ¬ w < 0 by omega), if_neg (show ¬ t < 0 by omega), n]
  simp
 rw [n, z]
 unfold signv
 rw [if_neg (by simp), if_neg (by omega)]
theorem modv_down {s w t : Int} (h4 : 0 < t) : modv s w t = (s * w % t, 0) := by
 unfold modv ab
 rw [if_neg (by omega), if_neg (by omega)]
def lf (s t : Int) (l : List Int) : Int := s - (qs s t l).sum
theorem sum_qr (s t : Int) (ht : 0 < t) : ∀ l : List Int, t * (qs s t l).sum + (rs s t l).sum = s * l.sum
 | [] => by simp [qs, rs]
 | w :: l => by
  have ih := sum_qr s t ht l; have h := Int.emod_add_mul_ediv (s * w) t; simp only [qs, rs, List.map_cons, List.sum_cons, Int.mul_add] at *
  omega
theorem rs_bounds (s t : Int) (ht : 0 < t) (l : List Int) : ∀ x ∈ rs s t l, 0 ≤ x ∧ x < t := by
 intro x hx; obtain ⟨w, _, rfl⟩ := List.mem_map.1 hx; exact ⟨Int.emod_nonneg _ (by omega), Int.emod_lt_of_pos _ ht⟩
theorem sum_rs (t : Int) : ∀ l : List Int, (∀ x ∈ l, 0 ≤ x ∧ x < t) → 0 ≤ l.sum ∧ l.sum ≤ t * l.length
 | [], _ => by simp
 | x :: l, h => by
  have ih := sum_rs t l (fun y hy => h y (by simp [hy])); have hx := h x (by simp); simp only [List.sum_cons, List.length_cons]; have : t * ((l.length + 1 : Nat) : Int) = t * l.length + t := by rw [Int.natCast_add, Int.mul_add]; simp
  omega
theorem lf_bounds (s : Int) (l : List Int) (ht : 0 < l.sum) : 0 ≤ lf s l.sum l ∧ lf s l.sum l ≤ l.length ∧ l.sum * lf s l.sum l = (rs s l.sum l).sum := by
 have h := sum_qr s l.sum ht l; have hr := sum_rs l.sum (rs s l.sum l) (rs_bounds s l.sum ht l); have hl : (rs s l.sum l).length = l.length := by simp [rs]
 rw [hl] at hr
 have e : l.sum * lf s l.sum l = (rs s l.sum l).sum := by
  unfold lf
  rw [Int.mul_sub, Int.mul_comm l.sum s]; omega
 refine ⟨?_, ?_, e⟩
 ·have : 0 ≤ l.sum * lf s l.sum l := by omega
  exact Int.nonneg_of_mul_nonneg_right this ht
 ·have : l.sum * lf s l.sum l ≤ l.sum * l.length := by omega
  exact Int.le_of_mul_le_mul_left this ht
theorem qs_snoc (s t : Int) (l : List Int) (w : Int) : qs s t (l ++ [w]) = qs s t l ++ [s * w / t] := by simp [qs]
theorem rs_snoc (s t : Int) (l : List Int) (w : Int) : rs s t (l ++ [w]) = rs s t l ++ [s * w % t] := by simp [rs]
theorem qs_bounds {s t : Int} (h0 : 0 ≤ s) (h1 : s ≤ 1000000000000000) (h4 : 0 < t) (l : List Int) (hl : ∀ w ∈ l, 0 ≤ w ∧ w ≤ t) : ∀ x ∈ qs s t l, 0 ≤ x ∧ x ≤ 1000000000000000 := by
 intro x hx; obtain ⟨w, hw, rfl⟩ := List.mem_map.1 hx; have := mdv_down h0 h1 (hl w hw).1 (hl w hw).2 h4
 omega
noncomputable def pos (s : Int) (l : List Int) : List Int := inc (qs s l.sum l) ((rk (rs s l.sum l)).take (lf s l.sum l).toNat)
theorem F57.go0 (s t : Int) (h0 : 0 ≤ s) (h1 : s ≤ 1000000000000000) (h4 : 0 < t) (ht : t ≤ 1000000000000000) (X : List Int) : ∀ (W2 W1 : List Int) (n i left : Int), i = (W1.length : Int) → n = (W1.length : Int) + W2.length → n ≤ 1000 → (∀ w ∈ W2, 0 ≤ w ∧ w ≤ t) → left ≤ 1000000000000000 → -1000000000000000 * i ≤ left →
  Ev (fun k => (F68.f k (rs s t (W1 ++ W2))).bind fun t114 => (if 0 ≤ left - (qs s t W2).sum then (if left - (qs s t W2).sum ≤ (t114.length : Int) then ((some (t114.take (left - (qs s t W2).sum).toNat : List Int)).bind fun y117 => (F57.l1 k (qs s t (W1 ++ W2)) y117 (y117.length : Int) 0)) else (none)) else (none))) X →
  Ev (fun k => F57.l0 k s t (qs s t W1 ++ List.replicate W2.length 0) (rs s t W1 ++ List.replicate W2.length 0) left (W1 ++ W2) n i) X
 | [], W1, n, i, left, hi, hn, hs, hw, l1, l2, hX => by
  refine Ev.succ ?_; have g : ¬ i < n := by simp at hn; omega
  simp only [F57.l0, if_neg g]
  simpa [qs, rs] using hX
 | w :: W2, W1, n, i, left, hi, hn, hs, hw, l1, l2, hX => by
  simp only [List.length_cons] at hn; have hw0 := hw w (by simp); have g : i < n := by omega
  have g1 : 0 ≤ i := by omega
  have g2 : i < ((W1 ++ w :: W2).length : Int) := by simp; omega
  have r := rd_at W1 w W2 i hi; obtain ⟨m1, m2, m3⟩ := mdv_down h0 h1 hw0.1 hw0.2 h4; have M := F66.eq (a := s) (b := w) (c := t) 1 (by unfold inI; omega) (by unfold inI; omega) (by unfold inI; omega); have D := F67.eq (a := s) (b := w) (c := t) (by unfold inI; omega) (by unfold inI; omega) (by unfold inI; omega); rw [m1] at M; rw [modv_down h4] at D; have e : wrap64 (i + 1) = i + 1 := w64 (by omega) (by omega); have e2 : wrap64 (left - s * w / t) = left - s * w / t := w64 (by omega) (by omega); have lq : (qs s t W1).length = W1.length := by simp [qs]
  have lr : (rs s t W1).length = W1.length := by simp [rs]
  have g3 : i < ((qs s t W1 ++ List.replicate (w :: W2).length (0 : Int)).length : Int) := by simp [lq]; omega
  have g4 : i < ((rs s t W1 ++ List.replicate (w :: W2).length (0 : Int)).length : Int) := by simp [lr]; omega
  refine Ev.succ ?_; simp only [F57.l0, if_pos g, if_pos g1, if_pos g2, r]; refine Ev.bind M ?_; simp only [D, Option.bind_some, if_pos g3, if_pos g4, e, e2]
  have s1 : (qs s t W1 ++ List.replicate (w :: W2).length (0 : Int)).set i.toNat (s * w / t) = qs s t (W1 ++ [w]) ++ List.replicate W2.length 0 := by
   rw [List.length_cons, List.replicate_succ, set_at _ _ _ _ _ (by rw [lq]; exact hi), qs_snoc]; simp
  have s2 : (rs s t W1 ++ List.replicate (w :: W2).length (0 : Int)).set i.toNat (s * w % t) = rs s t (W1 ++ [w]) ++ List.replicate W2.length 0 := by
   rw [List.length_cons, List.replicate_succ, set_at _ _ _ _ _ (by rw [lr]; exact hi), rs_snoc]; simp
  rw [s1, s2]
  have ih := F57.go0 s t h0 h1 h4 ht X W2 (W1 ++ [w]) n (i + 1) (left - s * w / t) (by simp; omega) (by simp; omega) hs (fun z hz => hw z (by simp [hz])) (by omega) (by omega) (by
   have e5 : (qs s t (w :: W2)).sum = s * w / t + (qs s t W2).sum := by simp [qs]
   have e6 : left - s * w / t - (qs s t W2).sum = left - (qs s t (w :: W2)).sum := by omega
   rw [e6]
   simpa using hX)
  simpa using ih
theorem le_sum {l : List Int} (h : ∀ x ∈ l, 0 ≤ x) : ∀ x ∈ l, x ≤ l.sum := by
 induction l with
 | nil => intro x hx; simp at hx
 | cons y l ih =>
  intro x hx; have h1 := sum_nonneg l (fun z hz => h z (by simp [hz])); have h2 := h y (by simp); rw [List.sum_cons]
  rcases List.mem_cons.1 hx with rfl | hx
  ·omega
  ·have := ih (fun z hz => h z (by simp [hz])) x hx
   omega
structure Fit (s : Int) (l : List Int) : Prop where
 s0 : 0 ≤ s
 s1 : s ≤ 1000000000000000
 w0 : ∀ x ∈ l, 0 ≤ x
 t0 : 0 < l.sum
 t1 : l.sum ≤ 1000000000000000
 n : l.length ≤ 200
theorem Fit.w {s : Int} {l : List Int} (h : Fit s l) : ∀ w ∈ l, 0 ≤ w ∧ w ≤ l.sum := fun w hw => ⟨h.w0 w hw, le_sum h.w0 w hw⟩
theorem Fit.rk {s : Int} {l : List Int} (h : Fit s l) : (rk (rs s l.sum l)).Perm (idx l.length) ∧ (rk (rs s l.sum l)).Pairwise (rOrd (rs s l.sum l)) := by
 have := rk_spec (rs s l.sum l) (by have := h.n; simp [rs]; omega)
 simpa [rs] using this
theorem Fit.take {s : Int} {l : List Int} (h : Fit s l) : ∀ y ∈ (M.rk (rs s l.sum l)).take (lf s l.sum l).toNat, 0 ≤ y ∧ y < (qs s l.sum l).length := by
 intro y hy; have := h.rk.1.mem_iff.1 (List.mem_of_mem_take hy); rw [mem_idx] at this
 simpa [qs] using this
theorem F57.eq {s : Int} {l : List Int} (h : Fit s l) : Ev (fun k => F57.f k s l.sum l) (pos s l) := by
 have g1 : (0 : Int) ≤ (l.length : Int) := by omega
 have g2 : (l.length : Int).toNat ≤ 35184372088832 := by have := h.n; omega
 simp only [F57.f, if_pos g1, if_pos g2]; have hn := h.n; have lb := lf_bounds s l h.t0; have hl : (rk (rs s l.sum l)).length = l.length := by rw [h.rk.1.length_eq, idx_length]
 have := F57.go0 s l.sum h.s0 h.s1 h.t0 h.t1 (pos s l) l [] l.length 0 s rfl (by simp) (by omega) h.w h.s1 (by have := h.s0; omega) (by
  refine Ev.bind (F68.eq _ (by simp [rs]; omega)) ?_; have g3 : 0 ≤ s - (qs s l.sum l).sum := lb.1; have g4 : s - (qs s l.sum l).sum ≤ ((rk (rs s l.sum l)).length : Int) := by rw [hl]; exact lb.2.1
  simp only [List.nil_append, if_pos g3, if_pos g4, Option.bind_some]; refine F57.go1 ((rk (rs s l.sum l)).take (lf s l.sum l).toNat) [] (qs s l.sum l) ((((rk (rs s l.sum l)).take (lf s l.sum l).toNat).length : Nat) : Int) 0 rfl (by simp) (by rw [List.length_take]; omega) h.take (fun v hv => ?_); have := qs_bounds h.s0 h.s1 h.t0 l h.w v hv; have : ((rk (rs s l.sum l)).take (lf s l.sum l).toNat).length ≤ 200 := by simp; omega
  omega)
 simpa [qs, rs] using this
noncomputable def shr (a : Int) (l : List Int) : List Int := if a < 0 then (pos (-a) l).map (fun x => -x) else pos a l
theorem pos_bounds {s : Int} {l : List Int} (h : Fit s l) : ∀ v ∈ pos s l, 0 ≤ v ∧ v ≤ 2000000000000000 := by
 have key : ∀ (Y x : List Int) (b : Int), (∀ v ∈ x, 0 ≤ v ∧ v ≤ b) → (∀ y ∈ Y, 0 ≤ y ∧ y < x.length) → ∀ v ∈ inc x Y, 0 ≤ v ∧ v ≤ b + Y.length := by
  intro Y
  induction Y with
  | nil => intro x b h _ v hv; have := h v hv; simp; omega
  | cons y Y ih =>
   intro x b hx hy v hv; have hy0 := hy y (by simp)
   have := ih (x.set y.toNat (rd x y + 1)) (b + 1) (fun w hw => by
    have hm := hx _ (rd_mem' x y hy0.1 hy0.2)
    rcases mem_set' hw with rfl | hw
    ·omega
    ·have := hx w hw; omega) (fun z hz => by rw [List.length_set]; exact hy z (by simp [hz])) v hv
   simp only [List.length_cons]; omega
 intro v hv; have := key _ _ 1000000000000000 (qs_bounds h.s0 h.s1 h.t0 l h.w) h.take v hv; have hl : (M.rk (rs s l.sum l)).length = l.length := by rw [h.rk.1.length_eq, idx_length]
 have hn := h.n; have : ((M.rk (rs s l.sum l)).take (lf s l.sum l).toNat).length ≤ 200 := by simp; omega
 omega
theorem F44.neg : ∀ (B A : List Int) (n i : Int), i = (A.length : Int) → n = (A.length : Int) + B.length → n < 1000000 → (∀ v ∈ B, 0 ≤ v ∧ v ≤ 2000000000000000) → Ev (fun k => F44.l0 k (A ++ B) n i) (A ++ B.map (fun x => -x), 0)
 | [], A, n, i, hi, hn, hs, hB => by
  refine Ev.succ ?_; have g : ¬ i < n := by simp at hn; omega
  simp only [F44.l0, if_neg g]
  simpa using Ev.const _
 | x :: B, A, n, i, hi, hn, hs, hB => by
  simp only [List.length_cons] at hn; have g : i < n := by omega
  have g1 : 0 ≤ i := by omega
  have g2 : i < ((A ++ x :: B).length : Int) := by simp; omega
  have r := rd_at A x B i hi; have hx := hB x (by simp); have e : wrap64 (i + 1) = i + 1 := w64 (by omega) (by omega); have e2 : wrap64 (-x) = -x := w64 (by omega) (by omega); refine Ev.succ ?_; simp only [F44.l0, if_pos g, if_pos g1, if_pos g2, r, e, e2, set_at A x (-x) B i hi]; have ih := F44.neg B (A ++ [-x]) n (i + 1) (by simp; omega) (by simp; omega) hs (fun z hz => hB z (by simp [hz]))
  simpa using ih
theorem shErr_le {a : Int} {l : List Int} : shErr a l = 0 → Fit (if a < 0 then -a else a) l := by
 intro h
 unfold shErr at h
 split at h
 ·omega
 ·split at h
  ·omega
  ·split at h
   ·omega
   ·split at h
    ·omega
    ·split at h
     ·omega
     ·rename_i h1 h2 h3 h4 h5
      have h3' : ∀ x ∈ l, 0 ≤ x := fun x hx => by
       have : ¬ x < 0 := fun k => h3 ⟨x, hx, k⟩
       omega
      have := sum_nonneg l h3'; exact ⟨by split <;> omega, by split <;> omega, h3', by omega, by omega, by omega⟩
theorem F44.eq {a : Int} {l : List Int} (hl : l.length < 100000000000000) (hw : ∀ x ∈ l, x ≤ 9223372036854775807) : Ev (fun k => F44.f k a l) (if shErr a l = 0 then shr a l else [], shErr a l) := by
 by_cases c1 : l.length > 200
 ·have c1' : (l.length : Int) > 200 := by omega
  have : shErr a l = 9 := by unfold shErr; rw [if_pos c1]
  rw [this]; simp only [F44.f, if_pos c1']; exact Ev.const _
 ·have c1' : ¬ (l.length : Int) > 200 := by omega
  have J : ∀ b, b = (decide (a > 1000000000000000 ∨ a < -1000000000000000)) → Ev (fun k => F44.j0 k a l b) (if shErr a l = 0 then shr a l else [], shErr a l) := by
   intro b hb; subst hb; refine Ev.succ ?_
   by_cases c2 : a > 1000000000000000 ∨ a < -1000000000000000
   ·have : shErr a l = 4 := by unfold shErr; rw [if_neg c1, if_pos c2]
    rw [this]; simp only [F44.j0, decide_eq_true c2, if_true]; exact Ev.const _
   ·simp only [F44.j0, decide_eq_false c2, Bool.false_eq_true, if_false]; have T := F56.eq l (by omega) hw; refine Ev.bind T ?_
    by_cases c3 : ∃ x ∈ l, x < 0
    ·have : shErr a l = 2 := by unfold shErr; rw [if_neg c1, if_neg c2, if_pos c3]
     rw [this]; simp only [if_pos c3]; exact Ev.const _
    ·simp only [if_neg c3, sumFrom_zero]
     by_cases c4 : l.sum > 1000000000000000
     ·have : shErr a l = 4 := by unfold shErr; rw [if_neg c1, if_neg c2, if_neg c3, if_pos c4]
      rw [this]; simp only [if_pos c4]; exact Ev.const _
     ·by_cases c5 : l.sum = 0
      ·have : shErr a l = 2 := by unfold shErr; rw [if_neg c1, if_neg c2, if_neg c3, if_neg c4, if_pos c5]
       rw [this]; simp only [if_neg c4, if_pos c5]; exact Ev.const _
      ·have z : shErr a l = 0 := by unfold shErr; rw [if_neg c1, if_neg c2, if_neg c3, if_neg c4, if_neg c5]
       have F := shErr_le z; rw [z]; simp only [if_neg c4, if_neg c5, if_true]
       unfold shr
       by_cases c6 : a < 0
       ·simp only [if_pos c6] at F ⊢; rw [w64 (n := -a) (by omega) (by omega)]; refine Ev.bind (F57.eq F) ?_
        have hlen : ((pos (-a) l).length : Int) ≤ 200 := by
         unfold pos; rw [inc_length]; simp [qs]; omega
        have := F44.neg (pos (-a) l) [] (pos (-a) l).length 0 rfl (by simp) (by omega) (pos_bounds F)
        simpa using this
       ·simp only [if_neg c6] at F ⊢; exact Ev.bind (F57.eq F) (Ev.const _)
  by_cases c2 : a > 1000000000000000
  ·simp only [F44.f, if_neg c1', if_pos c2]; exact J true (by simp [c2])
  ·simp only [F44.f, if_neg c1', if_neg c2]; exact J _ (by simp [c2])
theorem wfb {x : Int} (h : (Lit.int .i64 x).wf = true) : -9223372036854775808 ≤ x ∧ x ≤ 9223372036854775807 := by
 have e1 : IntKind.i64.min = -9223372036854775808 := by decide
 have e2 : IntKind.i64.max = 9223372036854775807 := by decide
 simp [Lit.wf, e1, e2] at h
 exact h
theorem F21.go (L : List Int) (hs : L.length < 100000000000000) : ∀ (d : Nat) (i : Int), i + d = L.length → 0 ≤ i → Ev (fun k => F21.l0 k L L i) true
 | 0, i, hi, h0 => by
  refine Ev.succ ?_; have g : ¬ i < (L.length : Int) := by omega
  simp only [F21.l0, if_neg g]; exact Ev.const _
 | d + 1, i, hi, h0 => by
  refine Ev.succ ?_; have g : i < (L.length : Int) := by omega
  have e : wrap64 (i + 1) = i + 1 := w64 (by omega) (by omega); simp only [F21.l0, if_pos g, if_pos h0, if_true, e]; exact F21.go L hs d (i + 1) (by omega) (by omega)
theorem F21.self (L : List Int) (hs : L.length < 100000000000000) : Ev (fun k => F21.f k L L) true := by
 simp only [F21.f, if_true]; exact F21.go L hs L.length 0 (by omega) (by omega)
theorem pos_length (s : Int) (l : List Int) : (pos s l).length = l.length := by unfold pos; rw [inc_length]; simp [qs]
theorem shr_length (a : Int) (l : List Int) : (shr a l).length = l.length := by
 unfold shr; split
 ·rw [List.length_map, pos_length]
 ·exact pos_length _ _
theorem sum_set (x : List Int) : ∀ (n : Nat) (v : Int), n < x.length → (x.set n v).sum = x.sum + v - x.getD n 0 := by
 induction x with
 | nil => intro n v h; simp at h
 | cons y x ih =>
  intro n v h
  cases n with
  | zero => simp; omega
  | succ n =>
   have := ih n v (by simpa using h); simp only [List.set_cons_succ, List.sum_cons, List.getD_cons_succ, this]; omega
theorem sum_inc : ∀ (Y x : List Int), (∀ y ∈ Y, 0 ≤ y ∧ y < x.length) → (inc x Y).sum = x.sum + Y.length
 | [], x, _ => by simp [inc]
 | y :: Y, x, h => by
  have h0 := h y (by simp); rw [inc_cons, sum_inc Y _ (fun z hz => by rw [List.length_set]; exact h z (by simp [hz])), sum_set x y.toNat _ (by omega)]; simp only [List.length_cons, rd]; omega
theorem pos_sum {s : Int} {l : List Int} (h : Fit s l) : (pos s l).sum = s := by
 have lb := lf_bounds s l h.t0; have hl : (rk (rs s l.sum l)).length = l.length := by rw [h.rk.1.length_eq, idx_length]
 unfold pos
 rw [sum_inc _ _ h.take, List.length_take, hl]; have e : lf s l.sum l = s - (qs s l.sum l).sum := rfl
 omega
theorem sum_neg : ∀ l : List Int, (l.map (fun x => -x)).sum = -l.sum
 | [] => by simp
 | x :: l => by simp only [List.map_cons, List.sum_cons, sum_neg l]; omega
theorem shr_sum {a : Int} {l : List Int} (h : shErr a l = 0) : (shr a l).sum = a := by
 have F := shErr_le h
 unfold shr
 by_cases c : a < 0
 ·simp only [if_pos c] at F ⊢; rw [sum_neg, pos_sum F]; omega
 ·simp only [if_neg c] at F ⊢; exact pos_sum F
theorem shr_bounds {a : Int} {l : List Int} (h : shErr a l = 0) : ∀ v ∈ shr a l, -2000000000000000 ≤ v ∧ v ≤ 2000000000000000 := by
 have F := shErr_le h
 unfold shr
 by_cases c : a < 0
 ·simp only [if_pos c] at F ⊢; intro v hv; obtain ⟨w, hw, rfl⟩ := List.mem_map.1 hv; have := pos_bounds F w hw
  omega
 ·simp only [if_neg c] at F ⊢; intro v hv; have := pos_bounds F v hv
  omega
theorem shErr_many {a : Int} {l : List Int} (h : l.length > 200) : shErr a l = 9 := by unfold shErr; rw [if_pos h]
end Go.Proofs.YtegpappenmhndaaDoor.M
end
section
namespace Go.Proofs.YtegpappenmhndaaDoor.M
open Go.RowKit Go.Proofs.YtegpappenmhndaaDoorW.PrintWords Go.Proofs.YtegpappenmhndaaDoorW.PrintLast
set_option linter.unusedVariables false
set_option linter.unusedSimpArgs false
theorem recE_zero {l : List MV} {value : Int} : ∀ {r P : List Int}, recE l value P r = 0 → ∀ n ∈ r, 1 ≤ n ∧ n ≤ (l.length : Int) ∧ (rdv l (n - 1)).f3 = 1 ∧ (rdv l (n - 1)).f1 ≤ value
 | [], _, _, n, hn => by simp at hn
 | m :: r, P, h, n, hn => by
  simp only [recE] at h
  by_cases c1 : ¬ (1 ≤ m ∧ m ≤ (l.length : Int) ∧ (rdv l (m - 1)).f3 = 1)
  ·rw [if_pos c1] at h; omega
  rw [if_neg c1] at h
  by_cases c2 : m ∈ P
  ·rw [if_pos c2] at h; omega
  rw [if_neg c2] at h
  by_cases c3 : value < (rdv l (m - 1)).f1
  ·rw [if_pos c3] at h; omega
  rw [if_neg c3] at h
  rcases List.mem_cons.1 hn with e | e
  ·subst e; have c1 := Decidable.not_not.1 c1; exact ⟨c1.1, c1.2.1, c1.2.2, by omega⟩
  ·exact recE_zero h n e
def wgt (bc : Bool) (m : MV) : Int := if bc = true then m.f5 else m.f4
abbrev wgts (l : List MV) (bc : Bool) (r : List Int) : List Int := r.map fun n => wgt bc (rdv l (n - 1))
def outv (l : List MV) (value : Int) (out : List MV) : List Int → List Int → List MV × Int
 | s :: ss, n :: ns => if s > 1000000000000 then ([], 4) else if s > 0 then outv l value (out ++ [⟨(l.length : Int) + (out.length : Int) + 1, value, (rdv l (n - 1)).f2, 5, 0, s, ⟨#[]⟩, n⟩]) ss ns else outv l value out ss ns
 | _, _ => (out, 0)
noncomputable def landv (l : List MV) (r : List Int) (amount : Int) (bc : Bool) (value : Int) : List MV × Int :=
 if (Checkv l).2 = 0 then (if dayv value = true then (if amount < 1 then ([], 2) else if recE l value [] r = 0 then (if shErr amount (wgts l bc r) = 0 then outv l value [] (shr amount (wgts l bc r)) r else ([], shErr amount (wgts l bc r))) else ([], recE l value [] r)) else ([], 11)) else ([], (Checkv l).2)
theorem F22.l1_go {l : List MV} {value : Int} (hl : l.length ≤ 2000) (S r : List Int) (hn : ∀ n ∈ r, (rdv l (n - 1)).f0 = n) : ∀ (SB SA rA rB : List Int) (out : List MV) (N : Int), SA ++ SB = S → rA ++ rB = r → SA.length = rA.length → SB.length = rB.length → N = (S.length : Int) → N < 1000000 → out.length ≤ SA.length →
  Ev (fun k => F22.l1 k l value out (fnd l r) S N (SA.length : Int)) (outv l value out SB rB)
 | [], SA, rA, rB, out, N, e1, e2, e3, e4, hN, hN2, ho => by
  have : SA.length = S.length := by rw [← e1]; simp
  refine Ev.succ ?_; simp only [F22.l1, outv, if_neg (show ¬ (SA.length : Int) < N by omega)]; exact Ev.const _
 | s :: SB, SA, rA, [], out, N, e1, e2, e3, e4, hN, hN2, ho => by simp at e4
 | s :: SB, SA, rA, n :: rB, out, N, e1, e2, e3, e4, hN, hN2, ho => by
  have hS : (S.length : Int) = (SA.length : Int) + (SB.length : Int) + 1 := by rw [← e1]; simp; omega
  have hr : r.length = rA.length + (rB.length + 1) := by rw [← e2]; simp
  have hs : rd S (SA.length : Int) = s := by rw [← e1]; exact rd_at SA s SB _ rfl
  have hf : rd_T23 (fnd l r) (SA.length : Int) = rdv l (n - 1) := by
   rw [← e2, show fnd l (rA ++ n :: rB) = fnd l rA ++ rdv l (n - 1) :: fnd l rB by simp [fnd]]; exact rdv_at _ _ _ _ (by rw [e3]; simp [fnd])
  have h0 := hn n (by rw [← e2]; simp); have e4' : SB.length = rB.length := by simpa using e4
  refine Ev.succ ?_; simp only [F22.l1, outv, if_pos (show (SA.length : Int) < N by omega), if_pos (show (0 : Int) ≤ (SA.length : Int) by omega), if_pos (show (SA.length : Int) < (S.length : Int) by omega), hs, hf, h0]; rw [w64 (n := (SA.length : Int) + 1) (by omega) (by omega), w64 (n := (l.length : Int) + (out.length : Int)) (by omega) (by omega), w64 (n := (l.length : Int) + (out.length : Int) + 1) (by omega) (by omega)]; have eS : (SA.length : Int) + 1 = ((SA ++ [s]).length : Int) := by simp
  rw [eS]
  by_cases c : s > 1000000000000
  ·simp only [if_pos c]; exact Ev.const _
  simp only [if_neg c]
  by_cases d : s > 0
  ·simp only [if_pos d, if_pos (show (SA.length : Int) < ((fnd l r).length : Int) by simp; omega), if_pos (show out.length < 1759218604441 by omega)]; exact F22.l1_go hl S r hn SB (SA ++ [s]) (rA ++ [n]) rB _ N (by simpa using e1) (by simpa using e2) (by simp [e3]) e4' hN hN2 (by simp; omega)
  ·simp only [if_neg d]; exact F22.l1_go hl S r hn SB (SA ++ [s]) (rA ++ [n]) rB _ N (by simpa using e1) (by simpa using e2) (by simp [e3]) e4' hN hN2 (by simp; omega)
theorem F22.l0_go {l : List MV} {amount value : Int} {bc : Bool} {F : List MV} {X : List MV × Int}
  (hX : Ev (fun k => (F44.f k amount (F.map (wgt bc))).bind fun b => if b.2 = 0 then F22.l1 k l value [] F b.1 (b.1.length : Int) 0 else some ([], b.2)) X) : ∀ (B A : List MV) (N : Int), A ++ B = F → N = (F.length : Int) → N < 10000000 →
  Ev (fun k => F22.l0 k l amount bc value F (A.map (wgt bc)) F N (A.length : Int)) X
 | [], A, N, e, hN, hN2 => by
  obtain rfl : A = F := by simpa using e
  refine Ev.succ ?_; simp only [F22.l0, if_neg (show ¬ (A.length : Int) < N by omega)]; exact hX
 | m :: B, A, N, e, hN, hN2 => by
  have hF : (F.length : Int) = (A.length : Int) + (B.length : Int) + 1 := by rw [← e]; simp; omega
  have hm : rd_T23 F (A.length : Int) = m := by rw [← e]; exact rdv_at A B m _ rfl
  have ih := F22.l0_go hX B (A ++ [m]) N (by simpa using e) hN hN2; rw [show ((A ++ [m]).length : Int) = (A.length : Int) + 1 by simp, show (A ++ [m]).map (wgt bc) = A.map (wgt bc) ++ [wgt bc m] by simp] at ih; refine Ev.succ ?_; simp only [F22.l0, if_pos (show (A.length : Int) < N by omega), if_pos (show (0 : Int) ≤ (A.length : Int) by omega), if_pos (show (A.length : Int) < (F.length : Int) by omega), hm, if_pos (show (A.map (wgt bc)).length < 17592186044416 by simp; omega)]; rw [w64 (n := (A.length : Int) + 1) (by omega) (by omega)]
  cases bc with
  | true => simp only [if_true]; simpa [wgt] using ih
  | false => simp only [Bool.false_eq_true, if_false]; simpa [wgt] using ih
theorem wgt_range {m : MV} (h : onem m = 0) (bc : Bool) : 0 ≤ wgt bc m ∧ wgt bc m ≤ 1000000000000 := by
 have hq := qty_range h; obtain ⟨_, _, _, _, h5, _, _⟩ := onev_zero h
 unfold wgt
 cases bc with
 | false => simp only [Bool.false_eq_true, if_false]; omega
 | true =>
  simp only [if_true]
  unfold cstv at h5
  by_cases c : m.f3 = 2 ∨ m.f3 = 3
  ·rw [if_pos c] at h5; have := eq_of_beq h5; omega
  ·rw [if_neg c] at h5
   by_cases d : m.f3 = 5
   ·rw [if_pos d] at h5; have := of_decide_eq_true h5; omega
   ·rw [if_neg d] at h5; have := of_decide_eq_true h5; omega
theorem F22.eq {l : List MV} {r : List Int} {amount value : Int} {bc : Bool} (hr : r.length ≤ 100000) : Ev (fun k => F22.f k l r amount bc value months) (landv l r amount bc value) := by
 unfold F22.f landv
 refine Ev.bind (F14.eq l) ?_
 by_cases c1 : (Checkv l).2 = 0
 rotate_left
 ·simp only [if_neg c1]; exact Ev.const _
 simp only [if_pos c1]; obtain ⟨hl, hok⟩ := (Checkv_ok l).1 c1; refine Ev.bind (F25.eq value) ?_
 by_cases c2 : dayv value = true
 rotate_left
 ·simp only [if_neg c2]; exact Ev.const _
 simp only [if_pos c2]
 by_cases c3 : amount < 1
 ·simp only [if_pos c3]; exact Ev.const _
 simp only [if_neg c3, F43.eq value (show r.length ≤ 1000000 by omega), Option.bind_some]
 by_cases c4 : recE l value [] r = 0
 rotate_left
 ·simp only [if_neg c4]; exact Ev.const _
 simp only [if_pos c4]; have hz := recE_zero c4; have hfw : (fnd l r).map (wgt bc) = wgts l bc r := by simp [fnd, wgts]
 refine F22.l0_go ?_ (fnd l r) [] _ rfl rfl (by simp; omega); rw [hfw]
 refine Ev.bind (F44.eq (a := amount) (l := wgts l bc r) (by simp; omega) (by
  intro x hx; obtain ⟨n, hn, rfl⟩ := List.mem_map.1 hx; have := wgt_range (hok.good _ (rdv_mem (l := l) (i := n - 1) (by have := hz n hn; omega) (by have := hz n hn; omega))) bc
  omega)) ?_
 by_cases c5 : shErr amount (wgts l bc r) = 0
 rotate_left
 ·simp only [if_neg c5]; exact Ev.const _
 simp only [if_pos c5]; have hsl : (shr amount (wgts l bc r)).length = r.length := by rw [shr_length]; simp
 exact F22.l1_go hl _ r (fun n hn => rdv_seq hok (hz n hn).1 (hz n hn).2.1) (shr amount (wgts l bc r)) [] [] r [] _ rfl rfl rfl hsl rfl (by omega) (Nat.le_refl _)
theorem outv_length (l : List MV) (value : Int) : ∀ (S r : List Int) (out : List MV), (outv l value out S r).1.length ≤ out.length + S.length
 | [], r, out => by simp [outv]
 | s :: S, [], out => by simp [outv]
 | s :: S, n :: r, out => by
  simp only [outv]
  split
  ·simp
  ·split
   ·have := outv_length l value S r (out ++ [⟨(l.length : Int) + (out.length : Int) + 1, value, (rdv l (n - 1)).f2, 5, 0, s, ⟨#[]⟩, n⟩])
    simp at this ⊢; omega
   ·have := outv_length l value S r out
    simp at this ⊢; omega
theorem landv_length (l : List MV) (r : List Int) (amount : Int) (bc : Bool) (value : Int) : (landv l r amount bc value).1.length ≤ r.length := by
 unfold landv
 repeat' split
 all_goals try simp
 have := outv_length l value (shr amount (wgts l bc r)) r []; rw [shr_length] at this
 simpa using this
end Go.Proofs.YtegpappenmhndaaDoor.M
end
section
namespace Go.Proofs.YtegpappenmhndaaDoor.M
open Go.RowKit Go.Proofs.YtegpappenmhndaaDoorW.PrintWords Go.Proofs.YtegpappenmhndaaDoorW.PrintLast
set_option linter.unusedVariables false
set_option linter.unusedSimpArgs false
def Piece (l : List MV) (value : Int) (r : List Int) (i : Int) (y : MV) : Prop :=
 ∃ n ∈ r, ∃ s : Int, 0 < s ∧ s ≤ 1000000000000 ∧ y = ⟨i + 1, value, (rdv l (n - 1)).f2, 5, 0, s, ⟨#[]⟩, n⟩
def Pieces (l : List MV) (value : Int) (r : List Int) : Int → List MV → Prop
 | _, [] => True
 | i, y :: T => Piece l value r i y ∧ Pieces l value r (i + 1) T
def csum : List MV → Int
 | [] => 0
 | y :: T => y.f5 + csum T
theorem csum_app (T : List MV) (y : MV) : csum (T ++ [y]) = csum T + y.f5 := by
 induction T with
 | nil => simp [csum]
 | cons a T ih => simp only [List.cons_append, csum, ih]; omega
theorem Pieces.app {l : List MV} {value : Int} {r : List Int} : ∀ {T : List MV} {i : Int} {y : MV}, Pieces l value r i T → Piece l value r (i + T.length) y → Pieces l value r i (T ++ [y])
 | [], i, y, _, h => ⟨by simpa using h, trivial⟩
 | a :: T, i, y, h, g => ⟨h.1, Pieces.app h.2 (by rw [show i + 1 + (T.length : Int) = i + ((a :: T).length : Int) by simp; omega]; exact g)⟩
theorem outv_spec (l : List MV) (value : Int) (r : List Int) : ∀ (S r2 : List Int) (out : List MV), (∀ n ∈ r2, n ∈ r) → S.length = r2.length → (∀ s ∈ S, 0 ≤ s) → Pieces l value r l.length out → (outv l value out S r2).2 = 0 →
  Pieces l value r l.length (outv l value out S r2).1 ∧ csum (outv l value out S r2).1 = csum out + S.sum
 | [], r2, out, _, _, _, hp, _ => by simp [outv, hp]
 | s :: S, [], out, _, hl, _, _, _ => by simp at hl
 | s :: S, n :: r2, out, hr, hl, h0, hp, h => by
  have hr' : ∀ n ∈ r2, n ∈ r := fun m hm => hr m (List.mem_cons_of_mem _ hm); have hl' : S.length = r2.length := by simpa using hl
  have h0' : ∀ s ∈ S, 0 ≤ s := fun m hm => h0 m (List.mem_cons_of_mem _ hm); have hs := h0 s List.mem_cons_self; simp only [outv] at h ⊢
  by_cases c : s > 1000000000000
  ·rw [if_pos c] at h; exact absurd h (by decide)
  rw [if_neg c] at h ⊢
  by_cases d : s > 0
  ·rw [if_pos d] at h ⊢; obtain ⟨a, b⟩ := outv_spec l value r S r2 _ hr' hl' h0' (hp.app ⟨n, hr n List.mem_cons_self, s, d, by omega, rfl⟩) h; refine ⟨a, b.trans ?_⟩; rw [csum_app, List.sum_cons]; simp only []
   omega
  ·rw [if_neg d] at h ⊢; obtain ⟨a, b⟩ := outv_spec l value r S r2 out hr' hl' h0' hp h; refine ⟨a, b.trans ?_⟩; rw [List.sum_cons]
   omega
theorem outv_err (l : List MV) (value : Int) : ∀ (S r2 : List Int) (out : List MV), (outv l value out S r2).2 ≠ 0 → (outv l value out S r2).1 = []
 | [], r2, out, h => by simp [outv] at h
 | s :: S, [], out, h => by simp [outv] at h
 | s :: S, n :: r2, out, h => by
  simp only [outv] at h ⊢
  by_cases c : s > 1000000000000
  ·rw [if_pos c]
  rw [if_neg c] at h ⊢
  by_cases d : s > 0
  ·rw [if_pos d] at h ⊢; exact outv_err l value S r2 _ h
  ·rw [if_neg d] at h ⊢; exact outv_err l value S r2 _ h
theorem landv_err {l : List MV} {r : List Int} {amount value : Int} {bc : Bool} (h : (landv l r amount bc value).2 ≠ 0) : (landv l r amount bc value).1 = [] := by
 unfold landv at h ⊢
 by_cases c1 : (Checkv l).2 = 0
 rotate_left
 ·rw [if_neg c1]
 rw [if_pos c1] at h ⊢
 by_cases c2 : dayv value = true
 rotate_left
 ·rw [if_neg c2]
 rw [if_pos c2] at h ⊢
 by_cases c3 : amount < 1
 ·rw [if_pos c3]
 rw [if_neg c3] at h ⊢
 by_cases c4 : recE l value [] r = 0
 rotate_left
 ·rw [if_neg c4]
 rw [if_pos c4] at h ⊢
 by_cases c5 : shErr amount (wgts l bc r) = 0
 rotate_left
 ·rw [if_neg c5]
 rw [if_pos c5] at h ⊢; exact outv_err _ _ _ _ _ h
theorem shr_nonneg {a : Int} {l : List Int} (h : shErr a l = 0) (ha : 1 ≤ a) : ∀ v ∈ shr a l, 0 ≤ v := by
 intro v hv; have hf := shErr_le h; rw [if_neg (by omega)] at hf
 unfold shr at hv
 rw [if_neg (by omega)] at hv; exact (pos_bounds hf v hv).1
theorem landv_ok {l : List MV} {r : List Int} {amount value : Int} {bc : Bool} (h : (landv l r amount bc value).2 = 0) :
  (Checkv l).2 = 0 ∧ dayv value = true ∧ (∀ n ∈ r, 1 ≤ n ∧ n ≤ (l.length : Int) ∧ (rdv l (n - 1)).f3 = 1 ∧ (rdv l (n - 1)).f1 ≤ value) ∧ Pieces l value r l.length (landv l r amount bc value).1 ∧ csum (landv l r amount bc value).1 = amount ∧ 1 ≤ amount ∧ amount ≤ 1000000000000000 := by
 unfold landv at h ⊢
 by_cases c1 : (Checkv l).2 = 0
 rotate_left
 ·rw [if_neg c1] at h; exact absurd h c1
 rw [if_pos c1] at h ⊢
 by_cases c2 : dayv value = true
 rotate_left
 ·rw [if_neg c2] at h; exact absurd h (by decide)
 rw [if_pos c2] at h ⊢
 by_cases c3 : amount < 1
 ·rw [if_pos c3] at h; exact absurd h (by decide)
 rw [if_neg c3] at h ⊢
 by_cases c4 : recE l value [] r = 0
 rotate_left
 ·rw [if_neg c4] at h; exact absurd h c4
 rw [if_pos c4] at h ⊢
 by_cases c5 : shErr amount (wgts l bc r) = 0
 rotate_left
 ·rw [if_neg c5] at h; exact absurd h c5
 rw [if_pos c5] at h ⊢; obtain ⟨a, b⟩ := outv_spec l value r (shr amount (wgts l bc r)) r [] (fun _ h => h) (by rw [shr_length]; simp) (shr_nonneg c5 (by omega)) trivial h; have hf := shErr_le c5; rw [if_neg (show ¬ amount < 0 by omega)] at hf; exact ⟨c1, c2, recE_zero c4, a, by rw [b, shr_sum c5]; simp [csum], by omega, hf.s1⟩
theorem piece_one {l : List MV} {value : Int} {r : List Int} (hok : ChkOk [] l) (hd : dayv value = true) (hz : ∀ n ∈ r, 1 ≤ n ∧ n ≤ (l.length : Int) ∧ (rdv l (n - 1)).f3 = 1 ∧ (rdv l (n - 1)).f1 ≤ value) {i : Int} {y : MV} (h : Piece l value r i y) :
  y.f0 = i + 1 ∧ onem y = 0 ∧ y.f3 = 5 ∧ y.f1 = value ∧ 0 < y.f5 ∧ y.f5 ≤ 1000000000000 ∧ ∀ T : List MV, refv (l ++ T) y = 0 := by
 obtain ⟨n, hn, s, hs0, hs1, rfl⟩ := h; obtain ⟨h1, h2, h3, h4⟩ := hz n hn; have hx : onem (rdv l (n - 1)) = 0 := hok.good _ (rdv_mem (by omega) (by omega)); obtain ⟨_, hx2, _⟩ := onev_zero hx; refine ⟨rfl, ?_, rfl, rfl, hs0, hs1, fun T => ?_⟩
 ·refine onev_ok hd hx2 (show inv 5 1 6 = true by decide) (show qtyv 5 0 = true by decide) ?_ ?_ ?_
  ·show cstv 5 s = true
   unfold cstv
   rw [if_neg (by decide), if_pos rfl]; exact decide_eq_true ⟨by omega, hs1⟩
  ·show lotv 5 ⟨#[]⟩ = true
   unfold lotv
   rw [decide_eq_true ((size_nil _).2 rfl)]
   rfl
  ·show rfv 5 n = true
   unfold rfv
   rw [if_pos (by decide)]; exact decide_eq_true h1
 ·have e : rdv (l ++ T) (n - 1) = rdv l (n - 1) := by
   obtain ⟨j, hj⟩ : ∃ j : Nat, n - 1 = (j : Int) := ⟨(n - 1).toNat, by omega⟩; have hlt : j < l.length := by omega
   simp [rdv, rd_T23, hj, List.getD_eq_getElem?_getD, List.getElem?_append_left hlt]
  unfold refv
  simp only [e, List.length_append]; rw [if_neg (by simp only [Int.natCast_add]; omega), if_pos ⟨trivial, by rw [h3]; rfl⟩, if_neg (by omega), if_neg (by simp)]
theorem pieces_chk {l : List MV} {value : Int} {r : List Int} (hok : ChkOk [] l) (hd : dayv value = true) (hz : ∀ n ∈ r, 1 ≤ n ∧ n ≤ (l.length : Int) ∧ (rdv l (n - 1)).f3 = 1 ∧ (rdv l (n - 1)).f1 ≤ value) : ∀ (T T1 : List MV) (i : Int), i = ((l ++ T1).length : Int) → Pieces l value r i T → ChkOk (l ++ T1) T
 | [], T1, i, _, _ => trivial
 | y :: T, T1, i, hi, h => by
  obtain ⟨a, b, _, _, _, _, c⟩ := piece_one hok hd hz h.1; refine ⟨by rw [a, hi], b, fun _ => c T1, ?_⟩; rw [List.append_assoc]; exact pieces_chk hok hd hz T (T1 ++ [y]) (i + 1) (by rw [hi]; simp; omega) h.2
theorem F8.l0_go {l m : List MV} {r : List Int} {amount value : Int} {bc : Bool} (hl : l.length ≤ 2000) (hm : m.length ≤ 100000) (hok : ChkOk [] l) (hd : dayv value = true) (hz : ∀ n ∈ r, 1 ≤ n ∧ n ≤ (l.length : Int) ∧ (rdv l (n - 1)).f3 = 1 ∧ (rdv l (n - 1)).f1 ≤ value)
  (hX : Ev (fun k => F8.l0 k l m amount (m.length : Int) months r amount bc value) true) : ∀ (B A : List MV) (n : Int), A ++ B = m → Pieces l value r ((l.length : Int) + (A.length : Int)) B → n + csum B = amount → 0 ≤ n → n ≤ 1000000000000 * (A.length : Int) → Ev (fun k => F8.l0 k l m n (A.length : Int) months r amount bc value) true
 | [], A, n, e, _, h, _, _ => by
  obtain rfl : A = m := by simpa using e
  obtain rfl : n = amount := by simpa [csum] using h
  exact hX
 | y :: B, A, n, e, hp, h, h0, h1 => by
  have hF : (m.length : Int) = (A.length : Int) + (B.length : Int) + 1 := by rw [← e]; simp; omega
  have hy : rd_T23 m (A.length : Int) = y := by rw [← e]; exact rdv_at A B y _ rfl
  obtain ⟨a, b, c3, c1, c5, c6, _⟩ := piece_one hok hd hz hp.1; have ih := F8.l0_go hl hm hok hd hz hX B (A ++ [y]) (n + y.f5) (by simpa using e) (by rw [show (l.length : Int) + ((A ++ [y]).length : Int) = (l.length : Int) + (A.length : Int) + 1 by simp; omega]; exact hp.2) (by simp only [csum] at h; omega) (by omega) (by simp; omega); rw [show ((A ++ [y]).length : Int) = (A.length : Int) + 1 by simp] at ih; refine Ev.succ ?_; simp only [F8.l0, if_pos (show (A.length : Int) < (m.length : Int) by omega), if_pos (show (0 : Int) ≤ (A.length : Int) by omega), hy, if_pos c3, if_pos c1]; rw [w64 (n := n + y.f5) (by omega) (by omega), w64 (n := (A.length : Int) + 1) (by omega) (by omega), w64 (n := (l.length : Int) + (A.length : Int)) (by omega) (by omega), w64 (n := (l.length : Int) + (A.length : Int) + 1) (by omega) (by omega)]; simp only [if_pos a]; exact ih
theorem F8.j0_eq {l : List MV} {r : List Int} {amount value : Int} {bc c : Bool} (hr : c = false → r.length ≤ 250 ∧ l.length ≤ 40) : Ev (fun k => F8.j0 k l c months r amount bc value) true := by
 refine Ev.succ ?_
 cases c with
 | true => simp only [F8.j0, if_true]; exact Ev.bind F11.true (Ev.const _)
 | false =>
  obtain ⟨hr, hl⟩ := hr rfl; simp only [F8.j0, Bool.false_eq_true, if_false]; refine Ev.bind (F22.eq (by omega)) ?_
  by_cases e : (landv l r amount bc value).2 = 0
  rotate_left
  ·simp only [if_neg e, landv_err e, List.length_nil, Int.natCast_zero, if_true]; exact Ev.bind F11.true (Ev.const _)
  simp only [if_pos e]; obtain ⟨h1, h2, h3, h4, h5, h6, h7⟩ := landv_ok e; obtain ⟨_, hok⟩ := (Checkv_ok l).1 h1; have hml := landv_length l r amount bc value; generalize hm : (landv l r amount bc value).1 = m at h4 h5 hml ⊢; refine F8.l0_go (by omega) (by omega) hok h2 h3 ?_ m [] 0 rfl (by simpa using h4) (by omega) (by omega) (by simp); refine Ev.succ ?_; have hall : (Checkv (l ++ m)).2 = 0 := (Checkv_ok _).2 ⟨by simp; omega, (ChkOk.app l [] m).2 ⟨hok, pieces_chk hok h2 h3 m [] l.length (by simp) h4 |> fun z => by simpa using z⟩⟩; simp only [F8.l0, if_neg (show ¬ (m.length : Int) < (m.length : Int) by omega), Option.bind_some, List.nil_append, List.length_nil, Nat.zero_add, if_pos (show l.length < 1759218604441 by omega), if_pos (show l.length + m.length < 1759218604441 by omega)]; refine Ev.bind (F14.eq (l ++ m)) ?_; simp only [Checkv_fst hall, if_true]; exact Ev.bind F11.true (Ev.const _)
theorem pure_MovesWhole : F8.Pure := by
 intro l x hl hx; refine Ev.out (g := fun k => F8.f k l x.f0 x.f1 x.f2 x.f3 months) ?_
 unfold F8.f
 obtain ⟨b, hb, hb2⟩ := F10.ok l; refine Ev.bind hb ?_
 cases b with
 | false => simp only [Bool.false_eq_true, if_false]; exact F8.j0_eq (by intro h; cases h)
 | true => simp only [if_true]; exact F8.j0_eq (by intro h; have := of_decide_eq_false h; exact ⟨by omega, hb2 rfl⟩)
end Go.Proofs.YtegpappenmhndaaDoor.M
namespace Go.Proofs.YtegpappenmhndaaDoor.Pure
theorem MovesWhole : M.F8.Pure := M.pure_MovesWhole
end Go.Proofs.YtegpappenmhndaaDoor.Pure
end
section
namespace Go.Proofs.YtegpappenmhndaaDoor.M
open Go.ChangeShapes Go.WideShapes Go.ChangeAt Go.RowKit Go.Proofs.YtegpappenmhndaaDoorW.PrintWords Go.Proofs.YtegpappenmhndaaDoorW.PrintLast
abbrev laidL : List (String × DataW Unit) := [("accounting/days.lengths", Rows.laid_accounting_days_lengths)]
theorem gLen : Tryd.prog.globalNamed "accounting/days.lengths" = some 0 := by kernel_rfl
theorem tLen : (Tryd.prog.globals[0]?).map (·.type) = some 91 := by kernel_rfl
theorem cLen : Tryd.prog.cellsOf 91 = 12 := by kernel_rfl
theorem cInt : Tryd.prog.cellsOf 3 = 1 := by kernel_rfl
set_option maxRecDepth 100000 in
theorem tab_of_laid {W : World} (h : laidMetH Tryd.prog laidL W) : Tab W := by
 rw [MakeChecks.laidMetH_plain _ _ _ (by kernel_rfl)] at h; obtain ⟨ps, ⟨g0, t0, cs0, f0, p0, q0, hg0, ht0, hv0, hd0, _⟩, _⟩ := h; obtain rfl := Option.some.inj (gLen.symm.trans hg0); obtain rfl := Option.some.inj (tLen.symm.trans ht0); obtain ⟨xs, m1, rfl, hx1, hlen, hn3, hel⟩ := DataW.trod_array Tryd.underlying91 hd0
 have hxs : xs.map (·.1) = months.map (fun n => (DataW.lit (.int .i64 n) : DataW Unit)) := by
  have e := congrArg (fun y : DataW Unit × List MemPlace => y.1) hx1
  unfold Rows.laid_accounting_days_lengths at e
  injection e with e
  exact e.symm
 have each : ∀ i, i < 12 → cs0.toList[i]? = (months[i]?).map (Value.int .i64) := by
  intro i hi; have h1 := hel i hi; rw [cInt, Nat.mul_one] at h1; obtain ⟨x, hx⟩ : ∃ x, xs[i]? = some x := ⟨xs[i], List.getElem?_eq_getElem (by omega)⟩; rw [hx] at h1; obtain ⟨n, e1, e2, _⟩ := DataW.trod_int Tryd.underlying3 h1; have e3 := congrArg (fun l => l[i]?) hxs; simp only [List.getElem?_map, hx, Option.map_some, e2] at e3; have e4 := congrArg (fun l => l[0]?) e1; simp only [List.getElem?_take, List.getElem?_drop, Nat.add_zero, Nat.zero_lt_one, if_true, List.getElem?_cons_zero] at e4; rw [e4]
  cases hm : months[i]? with
  | none => rw [hm] at e3; cases e3
  | some m =>
   rw [hm] at e3; simp only [Option.map_some, Option.some.injEq, DataW.lit.injEq, Lit.int.injEq, true_and] at e3; rw [e3]
   rfl
 have hcs : cs0 = (months.map (Value.int .i64)).toArray := by
  rw [← Array.toList_inj]; apply List.ext_getElem?; intro i
  by_cases hi : i < 12
  ·rw [each i hi, List.getElem?_map]
  ·rw [List.getElem?_eq_none (by rw [hlen, cLen]; omega), List.getElem?_eq_none (by simp [months]; omega)]
 have hv := hv0; simp only [World.var?, gLen, Option.bind_some] at hv
 split at hv
 ·rename_i cs t fr hb
  obtain rfl := Option.some.inj hv; exact ⟨t, fr, by rw [hb, hcs]⟩
 ·cases hv
theorem door_met (os : Os) (args : Array Value) : laidMetH Tryd.prog laidL ((World.doorLaid Tryd.prog 400 os).forCall (fun _ _ => 0) ⟨#[], args, []⟩).memory :=
 laidMetH_of_parts3 (fuel := 8) (laidMet_of_run' 8 (by kernel_rfl) (by kernel_rfl)) (by kernel_rfl) (by kernel_rfl)
end Go.Proofs.YtegpappenmhndaaDoor.M
end
section
namespace Go.Proofs.YtegpappenmhndaaDoor.movesWhole
open Go.ChangeShapes Go.WideShapes Go.ChangeAt Go.RowKit Go.Proofs.YtegpappenmhndaaDoor.M Go.Proofs.YtegpappenmhndaaDoorW.PrintWords Go.Proofs.YtegpappenmhndaaDoorW.PrintLast
open Go.ChangeMaps (open_string shut_string)
set_option linter.unusedVariables false
theorem own : ownKnob Tryd.prog.godebug = none := by kernel_rfl
theorem laidOut : laidOutB Tryd.prog = true := by kernel_rfl
set_option maxRecDepth 100000 in
set_option maxHeartbeats 4000000 in
theorem lifted (os : Os) (started : os.Started) (H : Type) (enc : TypeId × Value → H) :
  ReturnsInHanded {} Tryd.checked os 8 .any (fun w args => (Rows.movesWholeSpec.pre enc Tryd.prog Tryd.f8 Rows.movesWholeRow.domain false w args ∧ laidMetH Tryd.prog Rows.movesWholeRow.laid w) ∧ sizedMet enc Tryd.prog Tryd.f8 (OpenSpec.ofChange Rows.movesWholeSpec) false w args) (Rows.movesWholeSpec.post enc Tryd.prog Tryd.f8 false true false false) := by
 refine returnsInHanded_of_change_and (C := Tryd.checked) (X := fun w _ => laidMetH Tryd.prog Rows.movesWholeRow.laid w) (fun _ _ _ hh h => h.of_heap hh) own started (by kernel_rfl) Tryd.func8
  (ChangeSpec.witness_shaped (enc := enc) (C := Tryd.checked) (os := os) (X := fun w _ => laidMetH Tryd.prog Rows.movesWholeRow.laid w) false (World.doorLaid Tryd.prog 400 os) #[.slice none 0 0, .agg #[.slice none 0 0, .int .i64 0, .bool false, .int .i64 0]] 8 rfl (World.shaped_of_RefB (by kernel_rfl) (by kernel_rfl)) (by kernel_rfl) (by kernel_rfl) (by kernel_rfl) (door_met os _)) ?_
 intro W base args ds gs before hval0 hW hcnd hsz0 hL _; have hsz : (DataW.weightsEach Tryd.prog (Tryd.f8.params.toList ++ Rows.movesWholeSpec.plain.varTypes Tryd.prog) (ds ++ gs)).all (· ≤ reachBytes) = true := hsz0; have hval : ∀ (j : Nat) t v, Tryd.f8.params[j]? = some t → args[j]? = some v → Value.okWide Tryd.prog W .any base t v := hval0; have hW' := hW; obtain ⟨p, q, hA0, hV, rfl, hfz, hnd⟩ := hW; have hA : DataW.TrodAll enc Tryd.prog W 0 (fun _ => true) true Tryd.f8.params.toList args.toList ds p := hA0; rw [Tryd.params8] at hA hval hsz; obtain ⟨v0, vs0, d0, ds0, p0, q0, hargs, rfl, rfl, h0, r0⟩ := trodAll_cons hA; obtain ⟨v1, vs1, d1, ds1, p1, q1, rfl, rfl, rfl, h1, r1⟩ := trodAll_cons r0; obtain ⟨rfl, rfl, rfl⟩ := trodAll_nil r1; obtain rfl : args = #[v0, v1] := by cases args; simp_all
 obtain ⟨rfl, rfl⟩ := trodVars_none hV; obtain ⟨a0, len0, cap0, rfl⟩ := okWide_slice Tryd.underlying25 (hval 0 25 v0 rfl rfl); have k0 := h0; have lt0 : ∀ x ∈ p0, x.block < W.heap.size := by obtain ⟨m, hm⟩ := k0; exact DataW.trod_lt m _ _ _ hm
 obtain ⟨x0, K0, g0⟩ : ∃ x_ : List (S23), (Kd.slice 23 k23).K W x_ [.slice a0 len0 cap0] ∧ (x_.length * 80 ≤ 140737488351232 ∧ ∀ y0_ ∈ x_, G23 y0_) := by obtain ⟨f, hf⟩ := h0; exact ((Opens.slice Tryd.underlying25 opens23 (by kernel_rfl) (b := 80) (by kernel_rfl))).get enc W 0 _ _ f _ _ hf (weights_at hsz (j := 0) (t := 25) rfl rfl)
 obtain ⟨A0, c0, e0, L0, C0⟩ := K0; injection e0 with e0 _
 injection e0 with e0a e0b e0c
 subst e0a e0b e0c; obtain ⟨cs1, rfl⟩ : ∃ cs, v1 = .agg cs := by have z := (hval 1 44 v1 rfl rfl); simp only [Value.okWide, Tryd.underlying44] at z; obtain ⟨cs, e, _⟩ := z; exact ⟨cs, e⟩
 have k1 := h1; have lt1 : ∀ x ∈ p1, x.block < W.heap.size := by obtain ⟨m, hm⟩ := k1; exact DataW.trod_lt m _ _ _ hm
 obtain ⟨x1, K1, g1⟩ : ∃ x_ : S44, k44.K W x_ cs1.toList ∧ (G44 x_) := by obtain ⟨f, hf⟩ := h1; exact (opens44).get enc W 0 _ _ f _ _ hf (weights_at hsz (j := 1) (t := 44) rfl rfl)
 obtain ⟨A1_0, c1_0, e1, L1_0, C1_0⟩ := k44_open K1; obtain rfl : cs1 = #[.slice A1_0 x1.f0.length c1_0, .int .i64 x1.f1, .bool x1.f2, .int .i64 x1.f3] := by rw [← Array.toList_inj]; exact e1
 clear hA0 hval0 hsz0 hsz; obtain ⟨k, h⟩ := Pure.MovesWhole x0 x1 g0 g1; refine (M.F8.calls (k := k) (r := true) (w := W) (hr0 := C0) (hc0 := L0) (hr1_0 := C1_0) (hc1_0 := L1_0) (hr2 := kTab_of (tab_of_laid hL)) (hc2 := Nat.le_refl _) (h := h)).mono fun e W' ⟨he, bel0⟩ => ?_; have bel : Below W.heap.size W W' := by first | exact bel0 | exact bel0.below | (obtain ⟨nd, rfl⟩ := bel0; exact pw_below_drewN (Below.refl _ _) nd)
 subst he; exact ⟨_, rfl, _, _, _, [], _, [], hW', trodAll_mk1 (shut_bool Tryd.underlying4 _), (trodAll_cons_mk (Below.trod laidOut (by kernel_rfl) (of_decide_eq_true (by kernel_rfl)) k0 bel lt0) (trodAll_cons_mk (Below.trod laidOut (by kernel_rfl) (of_decide_eq_true (by kernel_rfl)) k1 bel lt1) trodAll_mk0)), rfl, bel.frame _, fun h => by cases h⟩
theorem over : Rows.movesWholeRow.holds Tryd.pinned (OpenSpec.ofChange Rows.movesWholeSpec) :=
 OpenClaim.holds_of_wide 8 Tryd.f8 rfl rfl rfl rfl rfl rfl rfl ⟨rfl, rfl, rfl, rfl, rfl⟩ rfl rfl rfl rfl rfl (by kernel_rfl) Tryd.func8 (by kernel_rfl)
  (of_decide_eq_true (by kernel_rfl)) (by unfold Func.isWrapper; first | (rw [if_pos (by decide +kernel)]; kernel_rfl) | (rw [if_neg (by decide +kernel)]; exact ⟨rfl, rfl⟩))
  (fun os started H enc _ => lifted os started H enc)
theorem proved : Rows.MovesWholeCardSaid :=
 Claim7.holds_tied_plain_at .later [] [.data] true (true, "98db53edb2efb439c9ec8dc62e8b94103ef33d00be49343a9acd4b193d3e4474") false
  over (fun _ h => by cases h) (by kernel_rfl) (fun _ h => by cases h) movesWhole_row_tie rfl ⟨rfl, rfl⟩ (by kernel_rfl) rfl
  (fun f fn hf hfn => by
   obtain rfl : f = 8 := Option.some.inj ((show Tryd.prog.funcNamed "accounting/accountinglaw33.MovesWhole" = some 8 by kernel_rfl).symm.trans hf) |>.symm; obtain rfl : fn = Tryd.f8 := (Option.some.inj (Tryd.func8.symm.trans hfn)).symm
   exact ⟨by kernel_rfl, fun j t ht => by
    rw [Tryd.params8] at ht; have hm : t ∈ [25, 44] := by simpa using Array.mem_of_getElem? ht
    have hall : ([25, 44].all fun u => !Tryd.prog.wantsStandIn u) = true := by kernel_rfl
    exact (show Tryd.prog.wantsStandIn t = false by simpa using List.all_eq_true.1 hall t hm)⟩)
  (by kernel_rfl)
#print axioms proved
end Go.Proofs.YtegpappenmhndaaDoor.movesWhole
namespace Go.Proofs.YtegpappenmhndaaDoor
theorem movesWhole_holds : Rows.MovesWholeCardSaid := movesWhole.proved
end Go.Proofs.YtegpappenmhndaaDoor
end
