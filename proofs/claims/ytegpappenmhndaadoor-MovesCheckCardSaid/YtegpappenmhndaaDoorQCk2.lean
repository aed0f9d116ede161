/- The law of the movements, walked and shown. Part 2 of 2 of what is the claim's own. -/
import Derived.Test.YtegpappenmhndaaDoorQCk1
import Derived.Test.YtegpappenmhndaaDoorQBB3
import Derived.Test.YtegpappenmhndaaDoorQBB8
import Derived.Test.YtegpappenmhndaaDoorRows
import Derived.Test.YtegpappenmhndaaDoorQBB1
import Derived.ProofKit
import Derived.LaidMore
import Derived.OpenShut
import Derived.Stop.Joined
import Derived.WalkKit
import Derived.ShutString
import Derived.ChangeOld
import Derived.Below
import Derived.SizedLaws
import Derived.Test.YtegpappenmhndaaDoorCards
import Derived.Test.YtegpappenmhndaaDoorTie
import Derived.SevenTiedAt
section
namespace Go.Proofs.YtegpappenmhndaaDoor.M
open Go.RowKit Go.Proofs.YtegpappenmhndaaDoorW.PrintWords Go.Proofs.YtegpappenmhndaaDoorW.PrintLast
set_option linter.unusedVariables false
set_option linter.unusedSimpArgs false
abbrev rdv (l : List MV) (i : Int) : MV := rd_T23 l i
theorem rdv_at (P R : List MV) (m : MV) (i : Int) (h : i = (P.length : Int)) : rdv (P ++ m :: R) i = m := by
 subst h; simp [rdv, rd_T23]
theorem rdv_mem {l : List MV} {i : Int} (h0 : 0 ≤ i) (h1 : i < l.length) : rdv l i ∈ l := by
 obtain ⟨n, rfl⟩ := Int.eq_ofNat_of_zero_le h0; have hn : n < l.length := by omega
 show l.getD (n : Int).toNat _ ∈ l; rw [Int.toNat_natCast, List.getD_eq_getElem?_getD, List.getElem?_eq_getElem hn]; exact List.getElem_mem hn
def onem (m : MV) : Int := onev m.f1 m.f2 m.f3 m.f4 m.f5 m.f6 m.f7
theorem onev_zero {value : Int} {item : ByteArray} {kind qty cost : Int} {lot : ByteArray} {ref : Int} (h : onev value item kind qty cost lot ref = 0) : dayv value = true ∧ codev item = true ∧ inv kind 1 6 = true ∧ qtyv kind qty = true ∧ cstv kind cost = true ∧ lotv kind lot = true ∧ rfv kind ref = true := by
 unfold onev at h
 by_cases c1 : dayv value = false
 ·rw [if_pos c1] at h; omega
 rw [if_neg c1] at h
 by_cases c2 : codev item = false
 ·rw [if_pos c2] at h; omega
 rw [if_neg c2] at h
 by_cases c3 : inv kind 1 6 = false
 ·rw [if_pos c3] at h; omega
 rw [if_neg c3] at h
 by_cases c4 : (qtyv kind qty && cstv kind cost) = false
 ·rw [if_pos c4] at h; omega
 rw [if_neg c4] at h
 by_cases c5 : lotv kind lot = false
 ·rw [if_pos c5] at h; omega
 rw [if_neg c5] at h
 by_cases c6 : rfv kind ref = false
 ·rw [if_pos c6] at h; omega
 have c4 : (qtyv kind qty && cstv kind cost) = true := by simpa using c4
 rw [Bool.and_eq_true] at c4; exact ⟨by simpa using c1, by simpa using c2, by simpa using c3, c4.1, c4.2, by simpa using c5, by simpa using c6⟩
theorem onev_ok {value : Int} {item : ByteArray} {kind qty cost : Int} {lot : ByteArray} {ref : Int} (h1 : dayv value = true) (h2 : codev item = true) (h3 : inv kind 1 6 = true) (h4 : qtyv kind qty = true) (h5 : cstv kind cost = true) (h6 : lotv kind lot = true) (h7 : rfv kind ref = true) : onev value item kind qty cost lot ref = 0 := by
 unfold onev
 simp [h1, h2, h3, h4, h5, h6, h7]
theorem qty_range {m : MV} (h : onem m = 0) : 0 ≤ m.f4 ∧ m.f4 ≤ 1000000000 ∧ (m.f3 = 5 → m.f4 = 0) ∧ (m.f3 = 1 → 1 ≤ m.f4) ∧ (folv m.f3 = true → 1 ≤ m.f7) := by
 obtain ⟨_, _, h3, h4, _, _, h7⟩ := onev_zero h
 unfold qtyv at h4
 have h8 : folv m.f3 = true → 1 ≤ m.f7 := by
  intro hf
  unfold rfv at h7
  rw [if_pos hf] at h7; exact of_decide_eq_true h7
 by_cases c : m.f3 = 5 ∨ m.f3 = 6
 ·rw [if_pos c] at h4; have := eq_of_beq h4; exact ⟨by omega, by omega, fun _ => this, by omega, h8⟩
 ·rw [if_neg c] at h4; have := of_decide_eq_true h4; exact ⟨by omega, by omega, by omega, by omega, h8⟩
def qsum : List MV → Int → Int → Int
 | [], _, _ => 0
 | y :: r, kind, ref => (if y.f3 = kind ∧ y.f7 = ref then y.f4 else 0) + qsum r kind ref
theorem qsum_app (P : List MV) (m : MV) (kind ref : Int) : qsum (P ++ [m]) kind ref = qsum P kind ref + if m.f3 = kind ∧ m.f7 = ref then m.f4 else 0 := by
 induction P with
 | nil => simp [qsum]
 | cons y r ih => simp only [List.cons_append, qsum, ih]; omega
def Good (P : List MV) : Prop := ∀ y ∈ P, onem y = 0
theorem Good.app {P : List MV} {m : MV} (h : Good P) (hm : onem m = 0) : Good (P ++ [m]) := by
 intro y hy
 rcases List.mem_append.1 hy with h1 | h1
 ·exact h y h1
 ·rw [List.mem_singleton.1 h1]; exact hm
theorem qsum_range : ∀ (P : List MV) (kind ref : Int), Good P → 0 ≤ qsum P kind ref ∧ qsum P kind ref ≤ 1000000000 * (P.length : Int) ∧ (kind = 5 → qsum P kind ref = 0)
 | [], kind, ref, _ => by simp [qsum]
 | y :: r, kind, ref, h => by
  have ih := qsum_range r kind ref (fun z hz => h z (List.mem_cons_of_mem _ hz)); have hy := qty_range (h y (List.mem_cons_self)); simp only [qsum, List.length_cons]
  by_cases c : y.f3 = kind ∧ y.f7 = ref
  ·rw [if_pos c]; refine ⟨by omega, by omega, fun k5 => ?_⟩; have := ih.2.2 k5; have := hy.2.2.1 (by omega)
   omega
  ·rw [if_neg c]; refine ⟨by omega, by omega, fun k5 => ?_⟩; have := ih.2.2 k5
   omega
def trg (kind : Int) : Int := if kind = 3 then 2 else 1
def refv (P : List MV) (m : MV) : Int :=
 if m.f7 > (P.length : Int) then 28
 else if (rdv P (m.f7 - 1)).f2.toList = m.f2.toList ∧ (rdv P (m.f7 - 1)).f3 = trg m.f3 then
  (if m.f1 < (rdv P (m.f7 - 1)).f1 then 17 else if ¬ m.f3 = 5 ∧ m.f4 + qsum P m.f3 m.f7 > (rdv P (m.f7 - 1)).f4 then 21 else 0)
 else 28
def chkv (P : List MV) : List MV → Int × Int
 | [] => (-1, 0)
 | m :: r => if m.f0 = (P.length : Int) + 1 then (if onem m = 0 then (if folv m.f3 = true then (if refv P m = 0 then chkv (P ++ [m]) r else ((P.length : Int), refv P m)) else chkv (P ++ [m]) r) else ((P.length : Int), onem m)) else ((P.length : Int), 17)
def Checkv (l : List MV) : Int × Int := if (l.length : Int) > 2000 then (0, 9) else chkv [] l
def MapOk (L : Rmap) (P : List MV) : Prop := ∀ kind ref, folv kind = true → (aget L (kind, ref)).getD 0 = qsum P kind ref
theorem aget_aput_other {κ ν : Type} [DecidableEq κ] (k k' : κ) (v : ν) (h : k ≠ k') : ∀ L : List (κ × ν), aget (aput L k v) k' = aget L k'
 | [] => by simp [aput, aget, h]
 | p :: r => by
  unfold aput
  by_cases c : p.1 = k
  ·simp only [c, if_true, aget, if_neg h]
  ·simp only [if_neg c, aget, aget_aput_other k k' v h r]
theorem F55.eq (n : Int) : F55.f n = some (trg n) := by
 unfold F55.f trg
 by_cases h : n = 3 <;> simp [h]
theorem F37.eq {P : List MV} {m : MV} {L : Rmap} (hP : Good P) (hl : P.length ≤ 2000) (hm : onem m = 0) (hf : folv m.f3 = true) (hL : MapOk L P) :
  ∃ L', F37.f P m L = some (refv P m, L') ∧ (refv P m = 0 → MapOk L' (P ++ [m])) := by
 have hq := qty_range hm; have h7 := hq.2.2.2.2 hf; have hs := qsum_range P m.f3 m.f7 hP
 unfold F37.f refv
 by_cases c1 : m.f7 > (P.length : Int)
 ·simp only [if_pos c1]; exact ⟨L, rfl, by omega⟩
 simp only [if_neg c1, if_neg (show ¬ m.f7 < 1 by omega), F55.eq, Option.bind_some]
 by_cases c2 : (rdv P (m.f7 - 1)).f2.toList = m.f2.toList
 rotate_left
 ·simp only [if_neg c2, if_neg (show ¬ ((rdv P (m.f7 - 1)).f2.toList = m.f2.toList ∧ (rdv P (m.f7 - 1)).f3 = trg m.f3) from fun h => c2 h.1)]; exact ⟨L, rfl, by omega⟩
 by_cases c3 : (rdv P (m.f7 - 1)).f3 = trg m.f3
 rotate_left
 ·simp only [if_pos c2, if_neg c3, if_neg (show ¬ ((rdv P (m.f7 - 1)).f2.toList = m.f2.toList ∧ (rdv P (m.f7 - 1)).f3 = trg m.f3) from fun h => c3 h.2)]; exact ⟨L, rfl, by omega⟩
 simp only [if_pos c2, if_pos c3, if_pos (show (rdv P (m.f7 - 1)).f2.toList = m.f2.toList ∧ (rdv P (m.f7 - 1)).f3 = trg m.f3 from ⟨c2, c3⟩)]
 by_cases c4 : m.f1 < (rdv P (m.f7 - 1)).f1
 ·simp only [if_pos c4]; exact ⟨L, rfl, by omega⟩
 simp only [if_neg c4]; have hx : onem (rdv P (m.f7 - 1)) = 0 := hP _ (rdv_mem (by omega) (by omega)); have hxq := qty_range hx; have e : (aget L (m.f3, m.f7)).getD 0 = qsum P m.f3 m.f7 := hL _ _ hf; rw [e, w64 (n := qsum P m.f3 m.f7 + m.f4) (by omega) (by omega)]
 have ok : MapOk (aput L (m.f3, m.f7) (qsum P m.f3 m.f7 + m.f4)) (P ++ [m]) := by
  intro kind ref hk; rw [qsum_app]
  by_cases d : m.f3 = kind ∧ m.f7 = ref
  ·rw [if_pos d, ← d.1, ← d.2, aget_aput_same]; rfl
  ·rw [if_neg d, aget_aput_other _ _ _ (by intro h; exact d (Prod.mk.inj h)), hL _ _ hk, Int.add_zero]
 by_cases c5 : m.f3 = 5
 ·have h0 : qsum P m.f3 m.f7 + m.f4 = 0 := by have := hs.2.2 c5; have := hq.2.2.1 c5; omega
  have hx1 : 1 ≤ (rdv P (m.f7 - 1)).f4 := hxq.2.2.2.1 (by rw [c3, c5]; rfl); have h9 : ¬ qsum P m.f3 m.f7 + m.f4 > (rdv P (m.f7 - 1)).f4 := by omega
  simp only [if_neg (show ¬ (¬ m.f3 = 5 ∧ m.f4 + qsum P m.f3 m.f7 > (rdv P (m.f7 - 1)).f4) from fun h => h.1 c5), if_neg h9]; exact ⟨_, rfl, fun _ => ok⟩
 ·by_cases c6 : qsum P m.f3 m.f7 + m.f4 > (rdv P (m.f7 - 1)).f4
  ·simp only [if_pos c6, if_pos (show ¬ m.f3 = 5 ∧ m.f4 + qsum P m.f3 m.f7 > (rdv P (m.f7 - 1)).f4 from ⟨c5, by omega⟩)]; exact ⟨_, rfl, by omega⟩
  ·simp only [if_neg c6, if_neg (show ¬ (¬ m.f3 = 5 ∧ m.f4 + qsum P m.f3 m.f7 > (rdv P (m.f7 - 1)).f4) from fun h => c6 (by omega))]; exact ⟨_, rfl, fun _ => ok⟩
theorem F14.go (l : List MV) (hl : l.length ≤ 2000) : ∀ (R P : List MV) (L : Rmap), P ++ R = l → Good P → MapOk L P → Ev (fun k => chkL k months l R P.length L) (chkv P R)
 | [], P, L, _, _, _ => by simp only [chkL, chkv]; exact Ev.const _
 | m :: R, P, L, e, hP, hL => by
  have hPl : P.length ≤ 2000 := by rw [← e, List.length_append] at hl; omega
  have ht : l.take P.length = P := by rw [← e]; simp
  have hn : (P ++ [m]).length = P.length + 1 := by simp
  simp only [chkL, chkv]
  by_cases c1 : m.f0 = (P.length : Int) + 1
  rotate_left
  ·simp only [if_neg c1]; exact Ev.const _
  simp only [if_pos c1]; refine Ev.bind (F12.eq m.f0 m.f1 m.f2 m.f3 m.f4 m.f5 m.f6 m.f7) ?_; show Ev (fun k => if onem m = 0 then _ else _) _
  by_cases c2 : onem m = 0
  rotate_left
  ·simp only [if_neg c2]; exact Ev.const _
  simp only [if_pos c2, F31.eq, Option.bind_some]
  by_cases c3 : folv m.f3 = true
  ·simp only [if_pos c3, ht]; obtain ⟨L', h1, h2⟩ := F37.eq hP hPl c2 c3 hL; simp only [h1, Option.bind_some]
   by_cases c4 : refv P m = 0
   ·simp only [if_pos c4]; rw [← hn]; exact F14.go l hl R (P ++ [m]) L' (by simpa using e) (hP.app c2) (h2 c4)
   ·simp only [if_neg c4]; exact Ev.const _
  ·simp only [if_neg c3]; rw [← hn]; refine F14.go l hl R (P ++ [m]) L (by simpa using e) (hP.app c2) ?_; intro kind ref hk; rw [qsum_app, if_neg (fun h => c3 (by rw [h.1]; exact hk)), hL _ _ hk, Int.add_zero]
theorem F14.eq (l : List MV) : Ev (fun k => F14.f k l months) (Checkv l) := by
 unfold F14.f Checkv
 by_cases c : l.length > 2000
 ·simp only [if_pos c, if_pos (show (l.length : Int) > 2000 by omega)]; exact Ev.const _
 ·simp only [if_neg c, if_neg (show ¬ (l.length : Int) > 2000 by omega)]; exact F14.go l (by omega) l [] [] rfl (by intro y hy; simp at hy) (by intro a b _; rfl)
theorem F38.go (m x : MV) : ∀ (B A : List MV) (q i : Int), i = (A.length : Int) → Good (A ++ B) → (A ++ B).length ≤ 2000 → 0 ≤ q → q ≤ 1000000000 * (A.length : Int) + 1000000000 →
  Ev (fun k => F38.l0 k (A ++ B) q i m.f0 m.f1 m.f2 m.f3 m.f4 m.f5 m.f6 m.f7 x.f0 x.f1 x.f2 x.f3 x.f4 x.f5 x.f6 x.f7) (if ¬ m.f3 = 5 ∧ q + qsum B m.f3 m.f7 > x.f4 then 21 else 0)
 | [], A, q, i, hi, _, hl, h0, h1 => by
  refine Ev.succ ?_; simp only [List.append_nil] at hl ⊢; simp only [F38.l0, if_neg (show ¬ i < (A.length : Int) by omega), qsum, Int.add_zero]
  by_cases c : m.f3 = 5
  ·simp only [if_pos c, if_neg (show ¬ (¬ m.f3 = 5 ∧ q > x.f4) from fun h => h.1 c)]; exact Ev.const _
  ·simp only [if_neg c]
   by_cases d : q > x.f4
   ·simp only [if_pos d, if_pos (show ¬ m.f3 = 5 ∧ q > x.f4 from ⟨c, d⟩)]; exact Ev.const _
   ·simp only [if_neg d, if_neg (show ¬ (¬ m.f3 = 5 ∧ q > x.f4) from fun h => d h.2)]; exact Ev.const _
 | y :: B, A, q, i, hi, hg, hl, h0, h1 => by
  have hy := qty_range (hg y (by simp)); have hl2 : A.length + (B.length + 1) ≤ 2000 := by simpa using hl
  have ih : ∀ q', 0 ≤ q' → q' ≤ 1000000000 * (A.length : Int) + 2000000000 → _ := fun q' a b => F38.go m x B (A ++ [y]) q' (i + 1) (by simp; omega) (by simpa using hg) (by simpa using hl) a (by simp; omega); refine Ev.succ ?_; simp only [F38.l0, if_pos (show i < ((A ++ y :: B).length : Int) by simp; omega), if_pos (show (0 : Int) ≤ i by omega)]; rw [show rd_T23 (A ++ y :: B) i = y from rdv_at A B y i hi, w64 (n := i + 1) (by omega) (by omega)]; rw [show A ++ y :: B = (A ++ [y]) ++ B by simp]; simp only [qsum]
  by_cases c : y.f3 = m.f3
  ·simp only [if_pos c]
   by_cases d : y.f7 = m.f7
   ·simp only [if_pos d, if_pos (show y.f3 = m.f3 ∧ y.f7 = m.f7 from ⟨c, d⟩)]; rw [w64 (n := q + y.f4) (by omega) (by omega), ← Int.add_assoc]; exact ih (q + y.f4) (by omega) (by omega)
   ·simp only [if_neg d, if_neg (show ¬ (y.f3 = m.f3 ∧ y.f7 = m.f7) from fun h => d h.2), Int.zero_add]; exact ih q (by omega) (by omega)
  ·simp only [if_neg c, if_neg (show ¬ (y.f3 = m.f3 ∧ y.f7 = m.f7) from fun h => c h.1), Int.zero_add]; exact ih q (by omega) (by omega)
theorem F38.eq {P : List MV} {m : MV} (hP : Good P) (hl : P.length ≤ 2000) (hm : onem m = 0) (hf : folv m.f3 = true) :
  Ev (fun k => F38.f k P m.f0 m.f1 m.f2 m.f3 m.f4 m.f5 m.f6 m.f7) (refv P m) := by
 have hq := qty_range hm; have h7 := hq.2.2.2.2 hf
 unfold F38.f refv
 by_cases c1 : m.f7 > (P.length : Int)
 ·simp only [if_pos c1]; exact Ev.const _
 simp only [if_neg c1]; rw [w64 (n := m.f7 - 1) (by omega) (by omega)]; simp only [if_pos (show (0 : Int) ≤ m.f7 - 1 by omega), if_pos (show m.f7 - 1 < (P.length : Int) by omega)]
 have fin : ∀ t : Int, t = trg m.f3 → Ev (fun k => F38.j0 k P t m.f0 m.f1 m.f2 m.f3 m.f4 m.f5 m.f6 m.f7 (rdv P (m.f7 - 1)).f0 (rdv P (m.f7 - 1)).f1 (rdv P (m.f7 - 1)).f2 (rdv P (m.f7 - 1)).f3 (rdv P (m.f7 - 1)).f4 (rdv P (m.f7 - 1)).f5 (rdv P (m.f7 - 1)).f6 (rdv P (m.f7 - 1)).f7)
   (if (rdv P (m.f7 - 1)).f2.toList = m.f2.toList ∧ (rdv P (m.f7 - 1)).f3 = trg m.f3 then (if m.f1 < (rdv P (m.f7 - 1)).f1 then 17 else if ¬ m.f3 = 5 ∧ m.f4 + qsum P m.f3 m.f7 > (rdv P (m.f7 - 1)).f4 then 21 else 0) else 28) := by
  intro t ht; subst ht; refine Ev.succ ?_
  by_cases c2 : (rdv P (m.f7 - 1)).f2.toList = m.f2.toList
  rotate_left
  ·simp only [F38.j0, if_neg c2, if_neg (show ¬ ((rdv P (m.f7 - 1)).f2.toList = m.f2.toList ∧ (rdv P (m.f7 - 1)).f3 = trg m.f3) from fun h => c2 h.1)]; refine Ev.succ ?_; simp only [F38.j1, if_true]; exact Ev.const _
  simp only [F38.j0, if_pos c2]; refine Ev.succ ?_
  by_cases c3 : (rdv P (m.f7 - 1)).f3 = trg m.f3
  rotate_left
  ·simp only [F38.j1, bne_iff_ne.2 c3, if_true, if_neg (show ¬ ((rdv P (m.f7 - 1)).f2.toList = m.f2.toList ∧ (rdv P (m.f7 - 1)).f3 = trg m.f3) from fun h => c3 h.2)]; exact Ev.const _
  simp only [F38.j1, bne_eq_false_iff_eq.2 c3, Bool.false_eq_true, if_false, if_pos (show (rdv P (m.f7 - 1)).f2.toList = m.f2.toList ∧ (rdv P (m.f7 - 1)).f3 = trg m.f3 from ⟨c2, c3⟩)]
  by_cases c4 : m.f1 < (rdv P (m.f7 - 1)).f1
  ·simp only [if_pos c4]; exact Ev.const _
  simp only [if_neg c4]; exact F38.go m (rdv P (m.f7 - 1)) P [] m.f4 0 rfl hP hl (by omega) (by simp; omega)
 by_cases c : m.f3 = 3
 ·simp only [if_pos c]; exact fin 2 (by simp [trg, c])
 ·simp only [if_neg c]; exact fin 1 (by simp [trg, c])
theorem F15.go (l : List MV) (hl : l.length ≤ 2000) (hz : ∀ y ∈ l, y.f2.size ≤ 1000000000000000 ∧ y.f6.size ≤ 1000000000000000) : ∀ (R P : List MV), P ++ R = l → Good P → Ev (fun k => F15.l0 k l (P.length : Int)) (chkv P R)
 | [], P, e, _ => by
  refine Ev.succ ?_; have : P.length = l.length := by rw [← e]; simp
  simp only [F15.l0, chkv, if_neg (show ¬ (P.length : Int) < (l.length : Int) by omega)]; exact Ev.const _
 | m :: R, P, e, hP => by
  have hPl : P.length + (R.length + 1) = l.length := by rw [← e]; simp
  have ht : l.take P.length = P := by rw [← e]; simp
  have hn : (P ++ [m]).length = P.length + 1 := by simp
  have hr : rd_T23 l (P.length : Int) = m := by rw [← e]; exact rdv_at P R m _ rfl
  have hzm := hz m (by rw [← e]; simp); refine Ev.succ ?_; simp only [F15.l0, chkv, if_pos (show (P.length : Int) < (l.length : Int) by omega), if_pos (show (0 : Int) ≤ (P.length : Int) by omega), hr]; rw [w64 (n := (P.length : Int) + 1) (by omega) (by omega)]
  by_cases c1 : m.f0 = (P.length : Int) + 1
  rotate_left
  ·simp only [if_neg c1]; exact Ev.const _
  simp only [if_pos c1]; refine Ev.bind (F13.eq m.f0 m.f1 m.f2 m.f3 m.f4 m.f5 m.f6 m.f7 hzm.1 hzm.2) ?_; show Ev (fun k => if onem m = 0 then _ else _) _
  by_cases c2 : onem m = 0
  rotate_left
  ·simp only [if_neg c2]; exact Ev.const _
  simp only [if_pos c2, F36.eq, Option.bind_some, if_pos (show (P.length : Int) ≤ (l.length : Int) by omega), Int.toNat_natCast, ht]; rw [show (P.length : Int) + 1 = ((P ++ [m]).length : Int) by rw [hn]; omega]
  by_cases c3 : folv m.f3 = true
  ·simp only [if_pos c3]; refine Ev.bind (F38.eq hP (by omega) c2 c3) ?_
   by_cases c4 : refv P m = 0
   ·simp only [if_pos c4]; exact F15.go l hl hz R (P ++ [m]) (by simpa using e) (hP.app c2)
   ·simp only [if_neg c4]; exact Ev.const _
  ·simp only [if_neg c3]; exact F15.go l hl hz R (P ++ [m]) (by simpa using e) (hP.app c2)
theorem F15.eq (l : List MV) (hz : ∀ y ∈ l, y.f2.size ≤ 1000000000000000 ∧ y.f6.size ≤ 1000000000000000) : Ev (fun k => F15.f k l) (Checkv l) := by
 unfold F15.f Checkv
 by_cases c : (l.length : Int) > 2000
 ·simp only [if_pos c]; exact Ev.const _
 ·simp only [if_neg c]; exact F15.go l (by omega) hz l [] rfl (by intro y hy; simp at hy)
end Go.Proofs.YtegpappenmhndaaDoor.M
end
section
namespace Go.Proofs.YtegpappenmhndaaDoor.M
open Go.RowKit Go.Proofs.YtegpappenmhndaaDoorW.PrintWords Go.Proofs.YtegpappenmhndaaDoorW.PrintLast
set_option linter.unusedVariables false
theorem pure_MovesCheck : F4.Pure := by
 intro l hl
 have hz : ∀ y ∈ l, y.f2.size ≤ 1000000000000000 ∧ y.f6.size ≤ 1000000000000000 := by
  intro y hy; obtain ⟨_, _, h2, _, _, _, h6, _⟩ := hl.2 y hy; exact ⟨by omega, by omega⟩
 refine Ev.out (g := fun k => F4.f k l months) ?_
 unfold F4.f
 obtain ⟨b, hb, _⟩ := F10.ok l; refine Ev.bind hb ?_
 cases b with
 | false => simp only [Bool.false_eq_true, if_false]; exact Ev.bind F11.true (Ev.const _)
 | true =>
  simp only [if_true]; refine Ev.bind (F14.eq l) (Ev.bind (F15.eq l hz) ?_); simp only [if_true]; exact Ev.bind F11.true (Ev.const _)
end Go.Proofs.YtegpappenmhndaaDoor.M
namespace Go.Proofs.YtegpappenmhndaaDoor.Pure
theorem MovesCheck : M.F4.Pure := M.pure_MovesCheck
end Go.Proofs.YtegpappenmhndaaDoor.Pure
end
section
namespace Go.Proofs.YtegpappenmhndaaDoor.M
open Go.ChangeShapes Go.WideShapes Go.ChangeAt Go.RowKit Go.Proofs.YtegpappenmhndaaDoorW.PrintWords Go.Proofs.YtegpappenmhndaaDoorW.PrintLast
abbrev laidL : List (String × DataW Unit) := [("accounting/days.lengths", Rows.laid_accounting_days_lengths)]
theorem gLen : Tryd.prog.globalNamed "accounting/days.lengths" = some 0 := by kernel_rfl
theorem tLen : (Tryd.prog.globals[0]?).map (·.type) = some 91 := by kernel_rfl
theorem cLen : Tryd.prog.cellsOf 91 = 12 := by kernel_rfl
theorem cInt : Tryd.prog.cellsOf 3 = 1 := by kernel_rfl
set_option maxRecDepth 100000 in
theorem tab_of_laid {W : World} (h : laidMetH Tryd.prog laidL W) : Tab W := by
 rw [MakeChecks.laidMetH_plain _ _ _ (by kernel_rfl)] at h; obtain ⟨ps, ⟨g0, t0, cs0, f0, p0, q0, hg0, ht0, hv0, hd0, _⟩, _⟩ := h; obtain rfl := Option.some.inj (gLen.symm.trans hg0); obtain rfl := Option.some.inj (tLen.symm.trans ht0); obtain ⟨xs, m1, rfl, hx1, hlen, hn3, hel⟩ := DataW.trod_array Tryd.underlying91 hd0
 have hxs : xs.map (·.1) = months.map (fun n => (DataW.lit (.int .i64 n) : DataW Unit)) := by
  have e := congrArg (fun y : DataW Unit × List MemPlace => y.1) hx1
  unfold Rows.laid_accounting_days_lengths at e
  injection e with e
  exact e.symm
 have each : ∀ i, i < 12 → cs0.toList[i]? = (months[i]?).map (Value.int .i64) := by
  intro i hi; have h1 := hel i hi; rw [cInt, Nat.mul_one] at h1; obtain ⟨x, hx⟩ : ∃ x, xs[i]? = some x := ⟨xs[i], List.getElem?_eq_getElem (by omega)⟩; rw [hx] at h1; obtain ⟨n, e1, e2, _⟩ := DataW.trod_int Tryd.underlying3 h1; have e3 := congrArg (fun l => l[i]?) hxs; simp only [List.getElem?_map, hx, Option.map_some, e2] at e3; have e4 := congrArg (fun l => l[0]?) e1; simp only [List.getElem?_take, List.getElem?_drop, Nat.add_zero, Nat.zero_lt_one, if_true, List.getElem?_cons_zero] at e4; rw [e4]
  cases hm : months[i]? with
  | none => rw [hm] at e3; cases e3
  | some m =>
   rw [hm] at e3; simp only [Option.map_some, Option.some.injEq, DataW.lit.injEq, Lit.int.injEq, true_and] at e3; rw [e3]
   rfl
 have hcs : cs0 = (months.map (Value.int .i64)).toArray := by
  rw [← Array.toList_inj]; apply List.ext_getElem?; intro i
  by_cases hi : i < 12
  ·rw [each i hi, List.getElem?_map]
  ·rw [List.getElem?_eq_none (by rw [hlen, cLen]; omega), List.getElem?_eq_none (by simp [months]; omega)]
 have hv := hv0; simp only [World.var?, gLen, Option.bind_some] at hv
 split at hv
 ·rename_i cs t fr hb
  obtain rfl := Option.some.inj hv; exact ⟨t, fr, by rw [hb, hcs]⟩
 ·cases hv
theorem door_met (os : Os) (args : Array Value) : laidMetH Tryd.prog laidL ((World.doorLaid Tryd.prog 400 os).forCall (fun _ _ => 0) ⟨#[], args, []⟩).memory :=
 laidMetH_of_parts3 (fuel := 8) (laidMet_of_run' 8 (by kernel_rfl) (by kernel_rfl)) (by kernel_rfl) (by kernel_rfl)
end Go.Proofs.YtegpappenmhndaaDoor.M
end
section
namespace Go.Proofs.YtegpappenmhndaaDoor.movesCheck
open Go.ChangeShapes Go.WideShapes Go.ChangeAt Go.RowKit Go.Proofs.YtegpappenmhndaaDoor.M Go.Proofs.YtegpappenmhndaaDoorW.PrintWords Go.Proofs.YtegpappenmhndaaDoorW.PrintLast
open Go.ChangeMaps (open_string shut_string)
set_option linter.unusedVariables false
theorem own : ownKnob Tryd.prog.godebug = none := by kernel_rfl
theorem laidOut : laidOutB Tryd.prog = true := by kernel_rfl
set_option maxRecDepth 100000 in
set_option maxHeartbeats 4000000 in
theorem lifted (os : Os) (started : os.Started) (H : Type) (enc : TypeId × Value → H) :
  ReturnsInHanded {} Tryd.checked os 4 .any (fun w args => (Rows.movesCheckSpec.pre enc Tryd.prog Tryd.f4 Rows.movesCheckRow.domain false w args ∧ laidMetH Tryd.prog Rows.movesCheckRow.laid w) ∧ sizedMet enc Tryd.prog Tryd.f4 (OpenSpec.ofChange Rows.movesCheckSpec) false w args) (Rows.movesCheckSpec.post enc Tryd.prog Tryd.f4 false true false false) := by
 refine returnsInHanded_of_change_and (C := Tryd.checked) (X := fun w _ => laidMetH Tryd.prog Rows.movesCheckRow.laid w) (fun _ _ _ hh h => h.of_heap hh) own started (by kernel_rfl) Tryd.func4
  (ChangeSpec.witness_shaped (enc := enc) (C := Tryd.checked) (os := os) (X := fun w _ => laidMetH Tryd.prog Rows.movesCheckRow.laid w) false (World.doorLaid Tryd.prog 400 os) #[.slice none 0 0] 8 rfl (World.shaped_of_RefB (by kernel_rfl) (by kernel_rfl)) (by kernel_rfl) (by kernel_rfl) (by kernel_rfl) (door_met os _)) ?_
 intro W base args ds gs before hval0 hW hcnd hsz0 hL _; have hsz : (DataW.weightsEach Tryd.prog (Tryd.f4.params.toList ++ Rows.movesCheckSpec.plain.varTypes Tryd.prog) (ds ++ gs)).all (· ≤ reachBytes) = true := hsz0; have hval : ∀ (j : Nat) t v, Tryd.f4.params[j]? = some t → args[j]? = some v → Value.okWide Tryd.prog W .any base t v := hval0; have hW' := hW; obtain ⟨p, q, hA0, hV, rfl, hfz, hnd⟩ := hW; have hA : DataW.TrodAll enc Tryd.prog W 0 (fun _ => true) true Tryd.f4.params.toList args.toList ds p := hA0; rw [Tryd.params4] at hA hval hsz; obtain ⟨v0, vs0, d0, ds0, p0, q0, hargs, rfl, rfl, h0, r0⟩ := trodAll_cons hA; obtain ⟨rfl, rfl, rfl⟩ := trodAll_nil r0; obtain rfl : args = #[v0] := by cases args; simp_all
 obtain ⟨rfl, rfl⟩ := trodVars_none hV; obtain ⟨a0, len0, cap0, rfl⟩ := okWide_slice Tryd.underlying25 (hval 0 25 v0 rfl rfl); have k0 := h0; have lt0 : ∀ x ∈ p0, x.block < W.heap.size := by obtain ⟨m, hm⟩ := k0; exact DataW.trod_lt m _ _ _ hm
 obtain ⟨x0, K0, g0⟩ : ∃ x_ : List (S23), (Kd.slice 23 k23).K W x_ [.slice a0 len0 cap0] ∧ (x_.length * 80 ≤ 140737488351232 ∧ ∀ y0_ ∈ x_, G23 y0_) := by obtain ⟨f, hf⟩ := h0; exact ((Opens.slice Tryd.underlying25 opens23 (by kernel_rfl) (b := 80) (by kernel_rfl))).get enc W 0 _ _ f _ _ hf (weights_at hsz (j := 0) (t := 25) rfl rfl)
 obtain ⟨A0, c0, e0, L0, C0⟩ := K0; injection e0 with e0 _
 injection e0 with e0a e0b e0c
 subst e0a e0b e0c; clear hA0 hval0 hsz0 hsz; obtain ⟨k, h⟩ := Pure.MovesCheck x0 g0; refine (M.F4.calls (k := k) (r := true) (w := W) (hr0 := C0) (hc0 := L0) (hr1 := kTab_of (tab_of_laid hL)) (hc1 := Nat.le_refl _) (h := h)).mono fun e W' ⟨he, bel0⟩ => ?_; have bel : Below W.heap.size W W' := by first | exact bel0 | exact bel0.below | (obtain ⟨nd, rfl⟩ := bel0; exact pw_below_drewN (Below.refl _ _) nd)
 subst he; exact ⟨_, rfl, _, _, _, [], _, [], hW', trodAll_mk1 (shut_bool Tryd.underlying4 _), (trodAll_cons_mk (Below.trod laidOut (by kernel_rfl) (of_decide_eq_true (by kernel_rfl)) k0 bel lt0) trodAll_mk0), rfl, bel.frame _, fun h => by cases h⟩
theorem over : Rows.movesCheckRow.holds Tryd.pinned (OpenSpec.ofChange Rows.movesCheckSpec) :=
 OpenClaim.holds_of_wide 4 Tryd.f4 rfl rfl rfl rfl rfl rfl rfl ⟨rfl, rfl, rfl, rfl, rfl⟩ rfl rfl rfl rfl rfl (by kernel_rfl) Tryd.func4 (by kernel_rfl)
  (of_decide_eq_true (by kernel_rfl)) (by unfold Func.isWrapper; first | (rw [if_pos (by decide +kernel)]; kernel_rfl) | (rw [if_neg (by decide +kernel)]; exact ⟨rfl, rfl⟩))
  (fun os started H enc _ => lifted os started H enc)
theorem proved : Rows.MovesCheckCardSaid :=
 Claim7.holds_tied_plain_at .later [] [.data] true (true, "98db53edb2efb439c9ec8dc62e8b94103ef33d00be49343a9acd4b193d3e4474") false
  over (fun _ h => by cases h) (by kernel_rfl) (fun _ h => by cases h) movesCheck_row_tie rfl ⟨rfl, rfl⟩ (by kernel_rfl) rfl
  (fun f fn hf hfn => by
   obtain rfl : f = 4 := Option.some.inj ((show Tryd.prog.funcNamed "accounting/accountinglaw33.MovesCheck" = some 4 by kernel_rfl).symm.trans hf) |>.symm; obtain rfl : fn = Tryd.f4 := (Option.some.inj (Tryd.func4.symm.trans hfn)).symm
   exact ⟨by kernel_rfl, fun j t ht => by
    rw [Tryd.params4] at ht; have hm : t ∈ [25] := by simpa using Array.mem_of_getElem? ht
    have hall : ([25].all fun u => !Tryd.prog.wantsStandIn u) = true := by kernel_rfl
    exact (show Tryd.prog.wantsStandIn t = false by simpa using List.all_eq_true.1 hall t hm)⟩)
  (by kernel_rfl)
#print axioms proved
end Go.Proofs.YtegpappenmhndaaDoor.movesCheck
namespace Go.Proofs.YtegpappenmhndaaDoor
theorem movesCheck_holds : Rows.MovesCheckCardSaid := movesCheck.proved
end Go.Proofs.YtegpappenmhndaaDoor
end
