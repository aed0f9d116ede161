/- The law of the entries, walked and shown. Part 2 of 2 of what is the claim's own. -/
import Derived.Test.YtjeecehhcajfaaaDoorQBB2
import Derived.Test.YtjeecehhcajfaaaDoorQBB8
import Derived.Test.YtjeecehhcajfaaaDoorQBB7
import Derived.Test.YtjeecehhcajfaaaDoorQCk1
import Derived.Test.YtjeecehhcajfaaaDoorQBB4
import Derived.Test.YtjeecehhcajfaaaDoorQBB5
import Derived.Test.YtjeecehhcajfaaaDoorQBB6
import Derived.Test.YtjeecehhcajfaaaDoorQBB9
import Derived.Test.YtjeecehhcajfaaaDoorRows
import Derived.Test.YtjeecehhcajfaaaDoorQBB1
import Derived.ProofKit
import Derived.LaidMore
import Derived.OpenShut
import Derived.Stop.Joined
import Derived.WalkKit
import Derived.ShutString
import Derived.ChangeOld
import Derived.Below
import Derived.SizedLaws
import Derived.Test.YtjeecehhcajfaaaDoorCards
import Derived.Test.YtjeecehhcajfaaaDoorTie
import Derived.SevenTiedAt
section
namespace Go.Proofs.YtjeecehhcajfaaaDoor.M
open Go.RowKit Go.Proofs.YtjeecehhcajfaaaDoorW.PrintWords Go.Proofs.YtjeecehhcajfaaaDoorW.PrintLast Go.Proofs.YtjeecehhcajfaaaDoorW.PrintMore
attribute [local go_sem] max2_int min2_int max_two min_two max_three min_three max_four min_four
set_option linter.unusedVariables false
set_option linter.unusedSimpArgs false
def F4.f (k : Nat) (a0_0 : Int) (a0_1 : ByteArray) (a0_2 : Int) (a0_3 : Int) (a0_4 : Int) (a0_5 : ByteArray) (a0_6 : ByteArray) (a0_7 : Int) (l0_8 : List (S24)) (l1 : List Int) : Option (Bool) := (F12.f k l0_8).bind fun t102 => (if t102 = true then ((F16.f k a0_0 a0_1 a0_2 a0_3 a0_4 a0_5 a0_6 a0_7 l0_8 l1).bind fun bt103 => ((F17.f k a0_0 a0_1 a0_2 a0_3 a0_4 a0_5 a0_6 a0_7 l0_8).bind fun bt105 => (if bt103.1 = bt105.1 then (if bt103.2 = bt105.2 then ((F13.f k l1).bind fun t107 => (some t107)) else (none)) else (none)))) else ((F13.f k l1).bind fun t108 => (some t108)))
set_option maxHeartbeats 8000000 in
set_option maxRecDepth 100000 in
theorem F4.calls (k : Nat) (a0_0 : Int) (a0_1 : ByteArray) (a0_2 : Int) (a0_3 : Int) (a0_4 : Int) (a0_5 : ByteArray) (a0_6 : ByteArray) (a0_7 : Int) (A0_8 : Option Addr) (c0_8 : Nat) (l0_8 : List (S24)) (A1 : Option Addr) (c1 : Nat) (l1 : List Int) (r : Bool) (w : World) (hr0_8 : Kd.C k24 w A0_8 l0_8.length l0_8) (hc0_8 : l0_8.length ≤ c0_8) (hr1 : Kd.C kTab w A1 l1.length l1) (hc1 : l1.length ≤ c1) (h : F4.f k a0_0 a0_1 a0_2 a0_3 a0_4 a0_5 a0_6 a0_7 l0_8 l1 = some r) :
    Calls Tryd.prog 4 #[.agg #[.int .i64 a0_0, .string a0_1, .int .i64 a0_2, .int .i64 a0_3, .int .i64 a0_4, .string a0_5, .string a0_6, .int .i64 a0_7, .slice A0_8 l0_8.length c0_8]] w fun e w' => e = .returned (.bool r) ∧ Below w.heap.size w w' := by
 have hu33 := Tryd.underlying33; have hu26 := Tryd.underlying26; have HR0_8 := Aside0.mk hr0_8; have HC0_8 := Aside0.mk hc0_8; clear hr0_8 hc0_8; have HR1 := Aside0.mk hr1; have HC1 := Aside0.mk hc1; clear hr1 hc1; have HB := Aside0.mk (Below.refl w.heap.size w)
 unfold F4.f at h
 have H := h; clear h; obtain ⟨t102, A30, H⟩ := bnd H; have A3 := Aside0.mk A30; clear A30
 by_cases c4 : t102 = true
 ·subst c4; rw [if_pos rfl] at H; obtain ⟨⟨t103, t104⟩, A50, H⟩ := bnd H; (try dsimp only at H); have A5 := Aside0.mk A50; clear A50; obtain ⟨⟨t105, t106⟩, A60, H⟩ := bnd H; (try dsimp only at H); have A6 := Aside0.mk A60; clear A60
  by_cases c7 : t103 = t105
  ·rw [if_pos c7] at H; have c7b0 := bT_ c7; have c7b1 := bF_ c7; clear c7
   by_cases c8 : t104 = t106
   ·rw [if_pos c8] at H; have c8b0 := bT_ c8; have c8b1 := bF_ c8; clear c8; obtain ⟨t107, A90, H⟩ := bnd H; have A9 := Aside0.mk A90; clear A90; obtain rfl := Option.some.inj H; go_enter Tryd.func4, Tryd.ntmps4
    go_wp2_with (first | ((with_reducible refine gate_dst (N := 1) rfl ?_); refine box_event ?hg (N := 1) ?hd (cs := #[.int .i64 a0_0, .string a0_1, .int .i64 a0_2, .int .i64 a0_3, .int .i64 a0_4, .string a0_5, .string a0_6, .int .i64 a0_7, .slice A0_8 l0_8.length c0_8]) (t := 33) ?hr ?_; (case hd => rfl); (case hg => rfl); (case hr => first | (go_simp; done) | (go_simp; rfl)); intro gb101 hg w10 hbox hb; have BK101 := Aside0.mk (hbox); have GW101 := Aside0.mk ((pbb2_8 : w.heap.size ≤ gb101)); have GE101 := Aside0.mk ((pbb2_8 : w.heap.size ≤ gb101)); replace HB := Aside0.mk (below_step pbb2_9 hb); clear hb hbox hg; obtain ⟨hcz11_0, hcz11_1, hcz11_2, hcz11_3, hcz11_4, hcz11_5, hcz11_6, hcz11_7, hcz11_8⟩ := cz9 BK101.out; obtain ⟨hfz11_0, hfz11_1, hfz11_2, hfz11_3, hfz11_4, hfz11_5, hfz11_6, hfz11_7, hfz11_8⟩ := fz9 BK101.out) | ((with_reducible refine gate_callee (f := 12) rfl ?_); refine goesL_ (some 9) rfl rfl Tryd.func12 (by kernel_rfl) rfl #[.slice A0_8 l0_8.length c0_8] rfl pbb2_5 ?_; (with_reducible refine (F12.calls k _ _ l0_8 true _ pbb7_0 (by exact HC0_8.out) A3.out).mono ?_); rintro e w' ⟨rfl, ⟨nd, rfl⟩⟩; refine ⟨_, rfl, ?_⟩) | ((with_reducible refine gate_callee (f := 16) rfl ?_); refine goesL_ (some 14) rfl rfl Tryd.func16 (by kernel_rfl) rfl #[.agg #[.int .i64 a0_0, .string a0_1, .int .i64 a0_2, .int .i64 a0_3, .int .i64 a0_4, .string a0_5, .string a0_6, .int .i64 a0_7, .slice A0_8 l0_8.length c0_8]] rfl pbb2_5 ?_; (with_reducible refine (F16.calls k a0_0 a0_1 a0_2 a0_3 a0_4 a0_5 a0_6 a0_7 _ _ l0_8 A1 c1 l1 t103 t104 _ (by repeat (first | exact (Kd.C_below HR0_8.out pbb2_11) | (with_reducible refine Kd.C_alloc ?_ _) | (with_reducible refine Kd.C_drewN ?_ _) | (with_reducible refine Kd.C_drew ?_))) (by exact HC0_8.out) (by repeat (first | exact (Kd.C_below HR1.out pbb2_11) | (with_reducible refine Kd.C_alloc ?_ _) | (with_reducible refine Kd.C_drewN ?_ _) | (with_reducible refine Kd.C_drew ?_))) HC1.out A5.out).mono ?_); rintro e w12 ⟨rfl, hb⟩; refine ⟨_, rfl, ?_⟩; replace BK101 := Aside0.mk (blk_below (g := gb101) (o := .cells #[.int .i64 a0_0, .string a0_1, .int .i64 a0_2, .int .i64 a0_3, .int .i64 a0_4, .string a0_5, .string a0_6, .int .i64 a0_7, .slice A0_8 l0_8.length c0_8] 33 (0, 0)) pbb2_12 hb); replace HB := Aside0.mk (below_step pbb2_11 hb); (try clear hb); (try clear hb2); (try clear hk); (try clear hi); obtain ⟨hcz13_0, hcz13_1, hcz13_2, hcz13_3, hcz13_4, hcz13_5, hcz13_6, hcz13_7, hcz13_8⟩ := cz9 BK101.out; obtain ⟨hfz13_0, hfz13_1, hfz13_2, hfz13_3, hfz13_4, hfz13_5, hfz13_6, hfz13_7, hfz13_8⟩ := fz9 BK101.out) | ((with_reducible refine gate_callee (f := 17) rfl ?_); refine goesL_ (some 19) rfl rfl Tryd.func17 (by kernel_rfl) rfl #[.agg #[.int .i64 a0_0, .string a0_1, .int .i64 a0_2, .int .i64 a0_3, .int .i64 a0_4, .string a0_5, .string a0_6, .int .i64 a0_7, .slice A0_8 l0_8.length c0_8]] rfl pbb2_5 ?_; (with_reducible refine (F17.calls k a0_0 a0_1 a0_2 a0_3 a0_4 a0_5 a0_6 a0_7 _ _ l0_8 t105 t106 _ pbb7_0 (by exact HC0_8.out) A6.out).mono ?_); rintro e w14 ⟨rfl, hb⟩; refine ⟨_, rfl, ?_⟩; replace BK101 := Aside0.mk (blk_below (g := gb101) (o := .cells #[.int .i64 a0_0, .string a0_1, .int .i64 a0_2, .int .i64 a0_3, .int .i64 a0_4, .string a0_5, .string a0_6, .int .i64 a0_7, .slice A0_8 l0_8.length c0_8] 33 (0, 0)) pbb2_12 hb); replace HB := Aside0.mk (below_step pbb2_11 hb); (try clear hb); (try clear hb2); (try clear hk); (try clear hi)) | (go_at_call 13; (with_reducible refine (F13.calls k A1 c1 l1 t107 _ pbb6_5 HC1.out A9.out).mono ?_); rintro e w15 ⟨rfl, hb⟩; replace BK101 := Aside0.mk (blk_below (g := gb101) (o := .cells #[.int .i64 a0_0, .string a0_1, .int .i64 a0_2, .int .i64 a0_3, .int .i64 a0_4, .string a0_5, .string a0_6, .int .i64 a0_7, .slice A0_8 l0_8.length c0_8] 33 (0, 0)) pbb2_12 hb); replace HB := Aside0.mk (below_step pbb2_11 hb); (try clear hb); (try clear hb2); (try clear hk); (try clear hi)))
    go_ret
    exact ⟨pbb2_18, pbb2_11⟩
   ·rw [if_neg c8] at H; exact absurd H (by simp)
  ·rw [if_neg c7] at H; exact absurd H (by simp)
 ·replace c4 := Bool.eq_false_iff.mpr c4; subst c4; rw [if_neg (show ¬ (false = true) by decide)] at H; obtain ⟨t108, A160, H⟩ := bnd H; have A16 := Aside0.mk A160; clear A160; obtain rfl := Option.some.inj H; go_enter Tryd.func4, Tryd.ntmps4
  go_wp2_with (first | ((with_reducible refine gate_dst (N := 1) rfl ?_); refine box_event ?hg (N := 1) ?hd (cs := #[.int .i64 a0_0, .string a0_1, .int .i64 a0_2, .int .i64 a0_3, .int .i64 a0_4, .string a0_5, .string a0_6, .int .i64 a0_7, .slice A0_8 l0_8.length c0_8]) (t := 33) ?hr ?_; (case hd => rfl); (case hg => rfl); (case hr => first | (go_simp; done) | (go_simp; rfl)); intro gb101 hg w17 hbox hb; have BK101 := Aside0.mk (hbox); have GW101 := Aside0.mk ((pbb2_8 : w.heap.size ≤ gb101)); have GE101 := Aside0.mk ((pbb2_8 : w.heap.size ≤ gb101)); replace HB := Aside0.mk (below_step pbb2_9 hb); clear hb hbox hg; obtain ⟨hcz18_0, hcz18_1, hcz18_2, hcz18_3, hcz18_4, hcz18_5, hcz18_6, hcz18_7, hcz18_8⟩ := cz9 BK101.out; obtain ⟨hfz18_0, hfz18_1, hfz18_2, hfz18_3, hfz18_4, hfz18_5, hfz18_6, hfz18_7, hfz18_8⟩ := fz9 BK101.out) | ((with_reducible refine gate_callee (f := 12) rfl ?_); refine goesL_ (some 9) rfl rfl Tryd.func12 (by kernel_rfl) rfl #[.slice A0_8 l0_8.length c0_8] rfl pbb2_5 ?_; (with_reducible refine (F12.calls k _ _ l0_8 false _ pbb7_0 (by exact HC0_8.out) A3.out).mono ?_); rintro e w' ⟨rfl, ⟨nd, rfl⟩⟩; refine ⟨_, rfl, ?_⟩) | ((with_reducible refine gate_callee (f := 13) rfl ?_); refine goesL_ (some 11) rfl rfl Tryd.func13 (by kernel_rfl) rfl #[] rfl pbb2_5 ?_; (with_reducible refine (F13.calls k A1 c1 l1 t108 _ (by repeat (first | exact (Kd.C_below HR1.out pbb2_11) | (with_reducible refine Kd.C_alloc ?_ _) | (with_reducible refine Kd.C_drewN ?_ _) | (with_reducible refine Kd.C_drew ?_))) HC1.out A16.out).mono ?_); rintro e w19 ⟨rfl, hb⟩; refine ⟨_, rfl, ?_⟩; replace BK101 := Aside0.mk (blk_below (g := gb101) (o := .cells #[.int .i64 a0_0, .string a0_1, .int .i64 a0_2, .int .i64 a0_3, .int .i64 a0_4, .string a0_5, .string a0_6, .int .i64 a0_7, .slice A0_8 l0_8.length c0_8] 33 (0, 0)) pbb2_12 hb); replace HB := Aside0.mk (below_step pbb2_11 hb); (try clear hb); (try clear hb2); (try clear hk); (try clear hi)))
  go_ret
  exact ⟨pbb2_18, pbb2_11⟩
/-- THE ONE PURE STATEMENT of F4. -/
def F4.Pure : Prop := ∀ (x0 : S33), (G33 x0) → ∃ k, F4.f k x0.f0 x0.f1 x0.f2 x0.f3 x0.f4 x0.f5 x0.f6 x0.f7 x0.f8 months = some true
end Go.Proofs.YtjeecehhcajfaaaDoor.M
end
section
namespace Go.Proofs.YtjeecehhcajfaaaDoor.M
open Go.RowKit Go.Proofs.YtjeecehhcajfaaaDoorW.PrintWords Go.Proofs.YtjeecehhcajfaaaDoorW.PrintLast
set_option linter.unusedVariables false
set_option linter.unusedSimpArgs false
def capv (b : ByteArray) : Nat → Nat → Bool
 | 0, _ => true
 | n + 1, i => (decide (65 ≤ bt b (i : Int)) && decide (bt b (i : Int) ≤ 90)) && capv b n (i + 1)
theorem capv_all (b : ByteArray) : ∀ n i, i + n = b.size → capv b n i = (b.data.toList.drop i).all capital
 | 0, i, h => by
  have : b.data.toList.drop i = [] := List.drop_eq_nil_of_le (by simp; omega); rw [this]; rfl
 | n + 1, i, h => by
  have hi : i < b.data.toList.length := by simp; omega
  rw [List.drop_eq_getElem_cons hi, List.all_cons, ← capv_all b n (i + 1) (by omega), capv]
  congr 1
  unfold capital bt
  have h2 : i < b.size := by omega
  simp only [Int.toNat_natCast, h2, dif_pos]
  rfl
def moneyv (b : ByteArray) : Bool := decide (b.size = 3) && capv b 3 0
theorem F35.eq (b : ByteArray) (hb : b.size ≤ 1000000000000000) : F35.f b = some (moneyv b) := by
 unfold F35.f moneyv
 have hw : wrap64 (b.size : Int) = (b.size : Int) := w64 (by omega) (by omega); rw [hw]
 by_cases c : b.size = 3
 ·rw [decide_eq_true c, decide_eq_true (show (b.size : Int) = 3 by omega), Bool.and_true, Bool.true_and, capv_all b 3 0 (by omega)]
  rfl
 ·rw [decide_eq_false c, decide_eq_false (show ¬ (b.size : Int) = 3 by omega), Bool.and_false, Bool.false_and]
theorem ref07.go (b : ByteArray) (hb : b.size = 3) : ∀ n i : Nat, i + n = 3 → Ev (fun k => F40.l0 k b (i : Int)) (capv b n i)
 | 0, i, h => by
  refine Ev.succ ?_; simp only [F40.l0, if_neg (show ¬ (i : Int) < 3 by omega), capv]; exact Ev.const _
 | n + 1, i, h => by
  have ih := ref07.go b hb n (i + 1) (by omega); refine Ev.succ ?_; simp only [F40.l0, if_pos (show (i : Int) < 3 by omega), if_pos (show (0 : Int) ≤ (i : Int) by omega), if_pos (show (i : Int) < (b.size : Int) by omega), capv, w64s (show i ≤ 1000000000 by omega)]
  by_cases c1 : bt b (i : Int) < 65
  ·simp only [if_pos c1, decide_eq_false (show ¬ 65 ≤ bt b (i : Int) by omega), Bool.false_and]; exact Ev.const _
  ·simp only [if_neg c1, decide_eq_true (show 65 ≤ bt b (i : Int) by omega), Bool.true_and]
   by_cases c2 : bt b (i : Int) > 90
   ·simp only [if_pos c2, decide_eq_false (show ¬ bt b (i : Int) ≤ 90 by omega), Bool.false_and]; exact Ev.const _
   ·simp only [if_neg c2, decide_eq_true (show bt b (i : Int) ≤ 90 by omega), Bool.true_and]; exact ih
theorem ref07.eq (b : ByteArray) : Ev (fun k => F40.f k b) (moneyv b) := by
 unfold F40.f moneyv
 by_cases c : b.size = 3
 ·simp only [if_pos (show (b.size : Int) = 3 by omega), decide_eq_true c, Bool.true_and]; exact ref07.go b c 3 0 (by omega)
 ·simp only [if_neg (show ¬ (b.size : Int) = 3 by omega), decide_eq_false c, Bool.false_and]; exact Ev.const _
def optv (b : ByteArray) : Bool := decide (b.size = 0) || codev b
theorem optional.eq (b : ByteArray) : Ev (fun k => F34.f k b) (optv b) := by
 unfold F34.f optv
 simp only [size_nil]
 by_cases c : b.size = 0
 ·simp only [if_pos c, decide_eq_true c, Bool.true_or]; exact Ev.const _
 ·simp only [if_neg c, decide_eq_false c, Bool.false_or]; exact Ev.bind (F33.eq b) (Ev.const _)
theorem refOptional.eq (b : ByteArray) (hb : b.size ≤ 1000000000000000) : Ev (fun k => F39.f k b) (optv b) := by
 unfold F39.f optv
 simp only [size_nil]
 by_cases c : b.size = 0
 ·simp only [if_pos c, decide_eq_true c, Bool.true_or]; exact Ev.const _
 ·simp only [if_neg c, decide_eq_false c, Bool.false_or]; exact Ev.bind (F38.eq b hb) (Ev.const _)
def withv (a : Int) : Bool := decide (a ≥ -1000000000000) && decide (a ≤ 1000000000000)
theorem within.eq (a : Int) : F36.f a 1000000000000 = some (withv a) := by
 unfold F36.f withv
 rw [show wrap64 (-1000000000000) = -1000000000000 from w64 (by omega) (by omega)]
 by_cases c : a ≥ -1000000000000
 ·rw [if_pos c, decide_eq_true c, Bool.true_and]
 ·rw [if_neg c, decide_eq_false c, Bool.false_and]
theorem refWithin.eq (a : Int) : F41.f a 1000000000000 = some (withv a) := by
 unfold F41.f withv
 rw [show wrap64 (-1000000000000) = -1000000000000 from w64 (by omega) (by omega)]
 by_cases c : a ≥ -1000000000000
 ·rw [if_pos c, decide_eq_true c, Bool.true_and]
 ·rw [if_neg c, decide_eq_false c, Bool.false_and]
def tagv (t : Tg) : Bool := codev t.f0 && codev t.f1
def dimv (l : List Tg) : Nat → Nat → Bool
 | 0, _ => true
 | n + 1, i => tagv (rd_T101 l (i : Int)) && ((decide (i = 0) || Op.bytesLess (rd_T101 l ((i : Int) - 1)).f0.toList (rd_T101 l (i : Int)).f0.toList) && dimv l n (i + 1))
def rightv (l : List Tg) : Bool := dimv l l.length 0 && decide ((l.length : Int) ≤ 6)
theorem codes.eq (t : Tg) : Ev (fun k => F66.f k t.f0 t.f1) (tagv t) := by
 unfold F66.f tagv
 refine Ev.bind (F33.eq t.f0) ?_
 cases codev t.f0 with
 | true => simp only [if_true, Bool.true_and]; exact Ev.bind (F33.eq t.f1) (Ev.const _)
 | false => simp only [Bool.false_eq_true, if_false, Bool.false_and]; exact Ev.const _
theorem named.eq (t : Tg) (h : t.f0.size ≤ 1000000000000000 ∧ t.f1.size ≤ 1000000000000000) : Ev (fun k => F69.f k t.f0 t.f1) (tagv t) := by
 unfold F69.f tagv
 refine Ev.bind (F38.eq t.f0 h.1) ?_
 cases codev t.f0 with
 | true => simp only [if_true, Bool.true_and]; exact Ev.bind (F38.eq t.f1 h.2) (Ev.const _)
 | false => simp only [Bool.false_eq_true, if_false, Bool.false_and]; exact Ev.const _
theorem rd101_mem {a : List Tg} {i : Nat} (h : i < a.length) : rd_T101 a (i : Int) ∈ a := by
 have e1 : rd_T101 a (i : Int) = a[i] := by simp [rd_T101, h]
 rw [e1]; exact List.getElem_mem h
theorem right.go (l : List Tg) (hl : l.length ≤ 1000000) : ∀ n i, i + n = l.length → Ev (fun k => F37.l0 k l l (l.length : Int) (i : Int)) (dimv l n i)
 | 0, i, h => by
  refine Ev.succ ?_; simp only [F37.l0, if_neg (show ¬ (i : Int) < (l.length : Int) by omega), dimv]; exact Ev.const _
 | n + 1, i, h => by
  have ih := right.go l hl n (i + 1) (by omega); refine Ev.succ ?_; simp only [F37.l0, if_pos (show (i : Int) < (l.length : Int) by omega), if_pos (show (0 : Int) ≤ (i : Int) by omega), dimv, w64s (show i ≤ 1000000000 by omega)]; refine Ev.bind (codes.eq _) ?_
  cases tagv (rd_T101 l (i : Int)) with
  | false => simp only [Bool.false_eq_true, if_false, Bool.false_and]; exact Ev.const _
  | true =>
   simp only [if_true, Bool.true_and]
   by_cases c : i = 0
   ·simp only [if_neg (show ¬ (i : Int) > 0 by omega), decide_eq_true c, Bool.true_or, Bool.true_and]; exact ih
   ·rw [w64 (n := (i : Int) - 1) (by omega) (by omega)]; simp only [if_pos (show (i : Int) > 0 by omega), if_pos (show 0 ≤ (i : Int) - 1 by omega), if_pos (show (i : Int) - 1 < (l.length : Int) by omega), decide_eq_false c, Bool.false_or]
    by_cases d : Op.bytesLess (rd_T101 l ((i : Int) - 1)).f0.toList (rd_T101 l (i : Int)).f0.toList = true
    ·simp only [d, if_true, Bool.true_and]; exact ih
    ·have d2 : Op.bytesLess (rd_T101 l ((i : Int) - 1)).f0.toList (rd_T101 l (i : Int)).f0.toList = false := by simpa using d
     simp only [d2, Bool.false_eq_true, if_false, Bool.false_and]; exact Ev.const _
theorem right.eq (l : List Tg) (hl : l.length ≤ 1000000) : Ev (fun k => F37.f k l) (rightv l) := by
 unfold F37.f rightv
 by_cases c : (l.length : Int) > 6
 ·simp only [if_pos c, decide_eq_false (show ¬ (l.length : Int) ≤ 6 by omega), Bool.and_false]; exact Ev.const _
 ·simp only [if_neg c, decide_eq_true (show (l.length : Int) ≤ 6 by omega), Bool.and_true]; exact right.go l hl l.length 0 (by omega)
theorem refRight.go (l : List Tg) (hl : l.length ≤ 1000000) (ht : ∀ t ∈ l, t.f0.size ≤ 1000000000000000 ∧ t.f1.size ≤ 1000000000000000) : ∀ n i, i + n = l.length → Ev (fun k => F42.l0 k l (i : Int)) (dimv l n i && decide ((l.length : Int) ≤ 6))
 | 0, i, h => by
  refine Ev.succ ?_; simp only [F42.l0, if_neg (show ¬ (i : Int) < (l.length : Int) by omega), dimv, Bool.true_and]; exact Ev.const _
 | n + 1, i, h => by
  have ih := refRight.go l hl ht n (i + 1) (by omega); refine Ev.succ ?_; simp only [F42.l0, if_pos (show (i : Int) < (l.length : Int) by omega), if_pos (show (0 : Int) ≤ (i : Int) by omega), dimv, w64s (show i ≤ 1000000000 by omega)]; refine Ev.bind (named.eq _ (ht _ (rd101_mem (by omega)))) ?_
  cases tagv (rd_T101 l (i : Int)) with
  | false => simp only [Bool.false_eq_true, if_false, Bool.false_and]; exact Ev.const _
  | true =>
   simp only [if_true, Bool.true_and]
   by_cases c : i = 0
   ·simp only [if_neg (show ¬ (i : Int) > 0 by omega), decide_eq_true c, Bool.true_or, Bool.true_and]; exact ih
   ·rw [w64 (n := (i : Int) - 1) (by omega) (by omega)]; simp only [if_pos (show (i : Int) > 0 by omega), if_pos (show 0 ≤ (i : Int) - 1 by omega), if_pos (show (i : Int) - 1 < (l.length : Int) by omega), decide_eq_false c, Bool.false_or]
    by_cases d : Op.bytesLess (rd_T101 l ((i : Int) - 1)).f0.toList (rd_T101 l (i : Int)).f0.toList = true
    ·simp only [d, if_true, Bool.true_and]; exact ih
    ·have d2 : Op.bytesLess (rd_T101 l ((i : Int) - 1)).f0.toList (rd_T101 l (i : Int)).f0.toList = false := by simpa using d
     simp only [d2, Bool.false_eq_true, if_false, Bool.false_and]; exact Ev.const _
theorem refRight.eq (l : List Tg) (hl : l.length ≤ 1000000) (ht : ∀ t ∈ l, t.f0.size ≤ 1000000000000000 ∧ t.f1.size ≤ 1000000000000000) : Ev (fun k => F42.f k l) (rightv l) := by
 unfold F42.f rightv
 exact refRight.go l hl ht l.length 0 (by omega)
def linev (x : Li) : Int := if codev x.f0 = true ∧ optv x.f4 = true ∧ optv x.f5 = true then (if moneyv x.f1 = true then (if withv x.f2 = true ∧ withv x.f3 = true then (if x.f2 = 0 ∧ x.f3 = 0 then 2 else if rightv x.f6 = true then 0 else 14) else 4) else 13) else 7
theorem line.j2 (x : Li) (hx : okL x) (b : Bool) : Ev (fun k => F14.j2 k b x.f0 x.f1 x.f2 x.f3 x.f4 x.f5 x.f6) (if b = true then 2 else if rightv x.f6 = true then 0 else 14) := by
 refine Ev.succ ?_; simp only [F14.j2]
 cases b with
 | true => simp only [if_true]; exact Ev.const _
 | false =>
  simp only [Bool.false_eq_true, if_false]; refine Ev.bind (right.eq x.f6 (by have := hx.2.2.2.2.1; omega)) ?_
  cases rightv x.f6 with
  | true => simp only [if_true]; exact Ev.const _
  | false => simp only [Bool.false_eq_true, if_false]; exact Ev.const _
theorem line.j1 (x : Li) (hx : okL x) (b : Bool) : Ev (fun k => F14.j1 k b x.f0 x.f1 x.f2 x.f3 x.f4 x.f5 x.f6) (if b = true then 4 else if x.f2 = 0 ∧ x.f3 = 0 then 2 else if rightv x.f6 = true then 0 else 14) := by
 refine Ev.succ ?_; simp only [F14.j1]
 cases b with
 | true => simp only [if_true]; exact Ev.const _
 | false =>
  simp only [Bool.false_eq_true, if_false]
  by_cases c2 : x.f2 = 0
  ·simp only [if_pos c2]; have h := line.j2 x hx (x.f3 == 0)
   by_cases c3 : x.f3 = 0
   ·rw [if_pos ⟨c2, c3⟩]; simpa [c3] using h
   ·rw [if_neg (fun h => c3 h.2)]; simpa [c3] using h
  ·simp only [if_neg c2]; have h := line.j2 x hx false; rw [if_neg (fun h => c2 h.1)]; simpa using h
theorem line.j0 (x : Li) (hx : okL x) (b : Bool) : Ev (fun k => F14.j0 k b x.f0 x.f1 x.f2 x.f3 x.f4 x.f5 x.f6) (if b = true then 7 else if moneyv x.f1 = true then (if withv x.f2 = true ∧ withv x.f3 = true then (if x.f2 = 0 ∧ x.f3 = 0 then 2 else if rightv x.f6 = true then 0 else 14) else 4) else 13) := by
 refine Ev.succ ?_; simp only [F14.j0]
 cases b with
 | true => simp only [if_true]; exact Ev.const _
 | false =>
  simp only [Bool.false_eq_true, if_false, F35.eq x.f1 hx.2.1, Option.bind_some, within.eq]
  cases moneyv x.f1 with
  | false => simp only [Bool.false_eq_true, if_false]; exact Ev.const _
  | true =>
   simp only [if_true]
   cases h2 : withv x.f2 with
   | false =>
    have h := line.j1 x hx true
    simpa using h
   | true =>
    simp only [if_true]
    cases h3 : withv x.f3 with
    | false => have h := line.j1 x hx true; simpa using h
    | true => have h := line.j1 x hx false; simpa using h
theorem F14.eq (x : Li) (hx : okL x) : Ev (fun k => F14.f k x.f0 x.f1 x.f2 x.f3 x.f4 x.f5 x.f6) (linev x) := by
 unfold F14.f linev
 refine Ev.bind (F33.eq x.f0) ?_
 cases codev x.f0 with
 | false => have h := line.j0 x hx true; simpa using h
 | true =>
  simp only [if_true]; refine Ev.bind (optional.eq x.f4) ?_
  cases optv x.f4 with
  | false => have h := line.j0 x hx true; simpa using h
  | true =>
   simp only [if_true]; refine Ev.bind (optional.eq x.f5) ?_
   cases optv x.f5 with
   | false => have h := line.j0 x hx true; simpa using h
   | true => have h := line.j0 x hx false; simpa using h
theorem refLine.j2 (x : Li) (hx : okL x) (b : Bool) : Ev (fun k => F15.j2 k b x.f0 x.f1 x.f2 x.f3 x.f4 x.f5 x.f6) (if b = true then 2 else if rightv x.f6 = true then 0 else 14) := by
 refine Ev.succ ?_; simp only [F15.j2]
 cases b with
 | true => simp only [if_true]; exact Ev.const _
 | false =>
  simp only [Bool.false_eq_true, if_false]; refine Ev.bind (refRight.eq x.f6 (by have := hx.2.2.2.2.1; omega) hx.2.2.2.2.2) ?_
  cases rightv x.f6 with
  | true => simp only [if_true]; exact Ev.const _
  | false => simp only [Bool.false_eq_true, if_false]; exact Ev.const _
theorem refLine.j1 (x : Li) (hx : okL x) (b : Bool) : Ev (fun k => F15.j1 k b x.f0 x.f1 x.f2 x.f3 x.f4 x.f5 x.f6) (if b = true then 4 else if x.f2 = 0 ∧ x.f3 = 0 then 2 else if rightv x.f6 = true then 0 else 14) := by
 refine Ev.succ ?_; simp only [F15.j1]
 cases b with
 | true => simp only [if_true]; exact Ev.const _
 | false =>
  simp only [Bool.false_eq_true, if_false]
  by_cases c2 : x.f2 = 0
  ·simp only [if_pos c2]; have h := refLine.j2 x hx (x.f3 == 0)
   by_cases c3 : x.f3 = 0
   ·rw [if_pos ⟨c2, c3⟩]; simpa [c3] using h
   ·rw [if_neg (fun h => c3 h.2)]; simpa [c3] using h
  ·simp only [if_neg c2]; have h := refLine.j2 x hx false; rw [if_neg (fun h => c2 h.1)]; simpa using h
theorem refLine.j0 (x : Li) (hx : okL x) (b : Bool) : Ev (fun k => F15.j0 k b x.f0 x.f1 x.f2 x.f3 x.f4 x.f5 x.f6) (if b = true then 7 else if moneyv x.f1 = true then (if withv x.f2 = true ∧ withv x.f3 = true then (if x.f2 = 0 ∧ x.f3 = 0 then 2 else if rightv x.f6 = true then 0 else 14) else 4) else 13) := by
 refine Ev.succ ?_; simp only [F15.j0]
 cases b with
 | true => simp only [if_true]; exact Ev.const _
 | false =>
  simp only [Bool.false_eq_true, if_false, refWithin.eq, Option.bind_some]; refine Ev.bind (ref07.eq x.f1) ?_
  cases moneyv x.f1 with
  | false => simp only [Bool.false_eq_true, if_false]; exact Ev.const _
  | true =>
   simp only [if_true]
   cases h2 : withv x.f2 with
   | false =>
    have h := refLine.j1 x hx true
    simpa using h
   | true =>
    simp only [if_true]
    cases h3 : withv x.f3 with
    | false => have h := refLine.j1 x hx true; simpa using h
    | true => have h := refLine.j1 x hx false; simpa using h
theorem F15.eq (x : Li) (hx : okL x) : Ev (fun k => F15.f k x.f0 x.f1 x.f2 x.f3 x.f4 x.f5 x.f6) (linev x) := by
 unfold F15.f linev
 refine Ev.bind (F38.eq x.f0 hx.1) ?_
 cases codev x.f0 with
 | false => have h := refLine.j0 x hx true; simpa using h
 | true =>
  simp only [if_true]; refine Ev.bind (refOptional.eq x.f4 hx.2.2.1) ?_
  cases optv x.f4 with
  | false => have h := refLine.j0 x hx true; simpa using h
  | true =>
   simp only [if_true]; refine Ev.bind (refOptional.eq x.f5 hx.2.2.2.1) ?_
   cases optv x.f5 with
   | false => have h := refLine.j0 x hx true; simpa using h
   | true => have h := refLine.j0 x hx false; simpa using h
def inW (x : Int) : Prop := -9223372036854775808 ≤ x ∧ x ≤ 9223372036854775807
instance (x : Int) : Decidable (inW x) := by unfold inW; infer_instance
def sumv (l : List Int) : Int × Bool := if inW l.sum then (l.sum, true) else (0, false)
theorem sum_bound : ∀ (l : List Int), (∀ x ∈ l, inW x) → -9223372036854775808 * (l.length : Int) ≤ l.sum ∧ l.sum ≤ 9223372036854775808 * (l.length : Int)
 | [], _ => by simp
 | x :: l, h => by
  have h1 := sum_bound l (fun y hy => h y (List.mem_cons_of_mem _ hy)); have h2 := h x List.mem_cons_self
  unfold inW at h2
  simp only [List.sum_cons, List.length_cons]
  omega
theorem two_words (hi lo x : Int) (h0 : 0 ≤ hi) (h1 : hi < 18446744073709551616) (l0 : 0 ≤ lo) (l1 : lo < 18446744073709551616) (hx : inW x) :
  ((hi + x / 9223372036854775808 + (lo + x % 18446744073709551616) / 18446744073709551616) % 18446744073709551616) * 18446744073709551616 + (lo + x) % 18446744073709551616 = (hi * 18446744073709551616 + lo + x) % 340282366920938463463374607431768211456 := by
 unfold inW at hx
 omega
theorem sum_g : ∀ (l : List Int) (hi lo : Int), (∀ x ∈ l, inW x) → 0 ≤ hi → hi < 18446744073709551616 → 0 ≤ lo → lo < 18446744073709551616 →
  0 ≤ (F74.g l hi lo).1 ∧ (F74.g l hi lo).1 < 18446744073709551616 ∧ 0 ≤ (F74.g l hi lo).2 ∧ (F74.g l hi lo).2 < 18446744073709551616 ∧
  (F74.g l hi lo).1 * 18446744073709551616 + (F74.g l hi lo).2 = (hi * 18446744073709551616 + lo + l.sum) % 340282366920938463463374607431768211456
 | [], hi, lo, _, h0, h1, l0, l1 => by
  simp only [F74.g, List.sum_nil]; refine ⟨h0, h1, l0, l1, ?_⟩
  omega
 | x :: l, hi, lo, hx, h0, h1, l0, l1 => by
  have e := two_words hi lo x h0 h1 l0 l1 (hx x List.mem_cons_self); simp only [F74.g, List.sum_cons]; have b1 := Int.emod_nonneg (hi + x / 9223372036854775808 + (lo + x % 18446744073709551616) / 18446744073709551616) (b := 18446744073709551616) (by omega); have b2 := Int.emod_lt_of_pos (hi + x / 9223372036854775808 + (lo + x % 18446744073709551616) / 18446744073709551616) (b := 18446744073709551616) (by omega); have b3 := Int.emod_nonneg (lo + x) (b := 18446744073709551616) (by omega); have b4 := Int.emod_lt_of_pos (lo + x) (b := 18446744073709551616) (by omega); obtain ⟨g1, g2, g3, g4, g5⟩ := sum_g l _ _ (fun y hy => hx y (List.mem_cons_of_mem _ hy)) b1 b2 b3 b4; refine ⟨g1, g2, g3, g4, ?_⟩; rw [g5, e]
  omega
theorem sum_e (H L S : Int) (h0 : 0 ≤ H) (h1 : H < 18446744073709551616) (l0 : 0 ≤ L) (l1 : L < 18446744073709551616) (hT : H * 18446744073709551616 + L = S % 340282366920938463463374607431768211456) (s0 : -170141183460469231731687303715884105728 ≤ S) (s1 : S < 170141183460469231731687303715884105728) :
  F74.e (H, L) = if inW S then (S, true) else (0, false) := by
 unfold F74.e
 simp only; have hw : wrap64 L = if L < 9223372036854775808 then L else L - 18446744073709551616 := by unfold wrap64; split <;> omega
 rw [hw]
 by_cases c : inW S
 ·rw [if_pos c]
  unfold inW at c
  have hL : (if L < 9223372036854775808 then L else L - 18446744073709551616) = S := by split <;> omega
  rw [hL, if_neg (by simp only [ne_eq, Decidable.not_not]; omega)]
 ·rw [if_neg c]
  unfold inW at c
  rw [if_pos ?_]
  split <;> omega
theorem F74.eq (l : List Int) (hl : l.length ≤ 1000000) (hx : ∀ x ∈ l, inW x) : F74.f l = some (sumv l) := by
 unfold F74.f sumv
 rw [if_pos (by omega)]; obtain ⟨g1, g2, g3, g4, g5⟩ := sum_g l 0 0 hx (by omega) (by omega) (by omega) (by omega); have hb := sum_bound l hx; have := sum_e _ _ l.sum g1 g2 g3 g4 (by rw [g5]; congr 1; omega) (by omega) (by omega); rw [← this]
theorem and32 (x : Int) : Go.bits .and .i64 x 4294967295 = x % 4294967296 := by
 have h1 : (BitVec.ofInt 64 x &&& BitVec.ofInt 64 4294967295).toNat = (x % 18446744073709551616).toNat % 4294967296 := by
  rw [BitVec.toNat_and, BitVec.toNat_ofInt, BitVec.toNat_ofInt]; have e : ((4294967295 : Int) % ((2 ^ 64 : Nat) : Int)).toNat = 2 ^ 32 - 1 := by decide
  rw [e, Nat.and_two_pow_sub_one_eq_mod]
  congr 1
 unfold Go.bits
 show IntKind.i64.wrap (((BitVec.ofInt 64 x &&& BitVec.ofInt 64 4294967295).toNat : Nat) : Int) = _; rw [h1, IntKind.wrap_i64]
 omega
theorem refSum.go (l : List Int) (hl : l.length ≤ 1000000) (hx : ∀ x ∈ l, inW x) : ∀ (n i : Nat) (a b : Int), i + n = l.length → -2147483648 * (i : Int) ≤ a → a ≤ 2147483648 * (i : Int) → 0 ≤ b → b ≤ 4294967296 * (i : Int) → a * 4294967296 + b = (l.take i).sum → Ev (fun k => F52.l0 k l a b (i : Int)) (sumv l)
 | 0, i, a, b, h, a0, a1, b0, b1, hs => by
  have ht : l.take i = l := List.take_of_length_le (by omega); rw [ht] at hs; refine Ev.succ ?_; simp only [F52.l0, if_neg (show ¬ (i : Int) < (l.length : Int) by omega)]; have hw : wrap64 (a + b / 4294967296) = a + b / 4294967296 := w64 (by omega) (by omega); rw [hw, and32]
  unfold sumv
  by_cases c1 : a + b / 4294967296 < -2147483648
  ·simp only [if_pos c1, if_neg (show ¬ inW l.sum by unfold inW; omega)]; exact Ev.const _
  ·by_cases c2 : a + b / 4294967296 > 2147483647
   ·simp only [if_neg c1, if_pos c2, if_neg (show ¬ inW l.sum by unfold inW; omega)]; exact Ev.const _
   ·simp only [if_neg c1, if_neg c2, if_pos (show inW l.sum by unfold inW; omega)]; rw [w64 (n := (a + b / 4294967296) * 4294967296) (by omega) (by omega), w64 (by omega) (by omega), show (a + b / 4294967296) * 4294967296 + b % 4294967296 = l.sum by omega]; exact Ev.const _
 | n + 1, i, a, b, h, a0, a1, b0, b1, hs => by
  have hi : i < l.length := by omega
  have hrd : rd l (i : Int) = l[i] := by simp [rd, hi]
  have hxi := hx l[i] (List.getElem_mem hi)
  have hst : (l.take (i + 1)).sum = (l.take i).sum + l[i] := by
   rw [List.take_succ_eq_append_getElem hi, List.sum_append]; simp
  refine Ev.succ ?_; simp only [F52.l0, if_pos (show (i : Int) < (l.length : Int) by omega), if_pos (show (0 : Int) ≤ (i : Int) by omega), hrd, and32]; generalize l[i] = x at hxi hst
  unfold inW at hxi
  rw [w64 (n := a + x / 4294967296) (by omega) (by omega), w64 (n := b + x % 4294967296) (by omega) (by omega), w64 (n := (i : Int) + 1) (by omega) (by omega), show (i : Int) + 1 = ((i + 1 : Nat) : Int) by omega]; exact refSum.go l hl hx n (i + 1) _ _ (by omega) (by omega) (by omega) (by omega) (by omega) (by rw [hst, ← hs]; omega)
theorem refSum.eq (l : List Int) (hl : l.length ≤ 1000000) (hx : ∀ x ∈ l, inW x) : Ev (fun k => F52.f k l) (sumv l) := by
 unfold F52.f
 exact refSum.go l hl hx l.length 0 0 0 (by omega) (by omega) (by omega) (by omega) (by omega) (by simp)
section
variable {κ : Type} [DecidableEq κ]
def amtsOf (key : Li → κ) (l : List Li) (k : κ) : List Int := (l.filter (fun x => decide (key x = k))).map (·.f2)
def basesOf (key : Li → κ) (l : List Li) (k : κ) : List Int := (l.filter (fun x => decide (key x = k))).map (·.f3)
theorem amts_snoc (key : Li → κ) (p : List Li) (x : Li) (k : κ) : amtsOf key (p ++ [x]) k = amtsOf key p k ++ (if key x = k then [x.f2] else []) := by
 unfold amtsOf
 rw [List.filter_append, List.map_append]
 by_cases c : key x = k <;> simp [c]
theorem bases_snoc (key : Li → κ) (p : List Li) (x : Li) (k : κ) : basesOf key (p ++ [x]) k = basesOf key p k ++ (if key x = k then [x.f3] else []) := by
 unfold basesOf
 rw [List.filter_append, List.map_append]
 by_cases c : key x = k <;> simp [c]
def colInv (key : Li → κ) (pre : List Li) (L : List (Col κ)) : Prop := (∀ q ∈ L, q.2.1 = amtsOf key pre q.1 ∧ q.2.2 = basesOf key pre q.1) ∧ ∀ k, k ∈ L.map (·.1) ↔ ∃ x ∈ pre, key x = k
theorem colInv_step (key : Li → κ) (pre : List Li) (L : List (Col κ)) (x : Li) (h : colInv key pre L) : colInv key (pre ++ [x]) (colStep key L x) := by
 have hn : ∀ q ∈ colNew L (key x), q.2.1 = amtsOf key pre q.1 ∧ q.2.2 = basesOf key pre q.1 := by
  intro q hq
  unfold colNew at hq
  by_cases c : L.any (fun q => decide (q.1 = key x)) = true
  ·rw [if_pos c] at hq; exact h.1 q hq
  ·rw [if_neg c] at hq
   rcases List.mem_append.1 hq with h3 | h3
   ·exact h.1 q h3
   ·simp only [List.mem_singleton] at h3; subst h3; have hno : ∀ y ∈ pre, ¬ key y = key x := fun y hy e => c ((any_key L _).2 ((h.2 _).2 ⟨y, hy, e⟩))
    have hf : pre.filter (fun y => decide (key y = key x)) = [] := by
     rw [List.filter_eq_nil_iff]; intro y hy
     simpa using hno y hy
    simp [amtsOf, basesOf, hf]
 constructor
 ·intro q hq
  unfold colStep colPut at hq
  obtain ⟨q0, hq0, rfl⟩ := List.mem_map.1 hq; obtain ⟨h1, h2⟩ := hn q0 hq0
  by_cases c : q0.1 = key x
  ·rw [if_pos c]; simp only [amtsOf, basesOf, List.filter_append, List.map_append]; rw [h1, h2]
   simp [amtsOf, basesOf, c]
  ·rw [if_neg c]; have c2 : ¬ key x = q0.1 := fun e => c e.symm; simp only [amtsOf, basesOf, List.filter_append, List.map_append]; rw [h1, h2]
   simp [amtsOf, basesOf, c2]
 ·intro k
  unfold colStep
  rw [colPut_keys]
  have hk : k ∈ (colNew L (key x)).map (·.1) ↔ k ∈ L.map (·.1) ∨ k = key x := by
   unfold colNew
   by_cases c : L.any (fun q => decide (q.1 = key x)) = true
   ·rw [if_pos c]; exact ⟨.inl, fun hh => hh.elim id (fun e => e ▸ (any_key L _).1 c)⟩
   ·rw [if_neg c]; simp
  rw [hk, h.2 k]
  constructor
  ·rintro (⟨y, hy, e⟩ | e)
   ·exact ⟨y, List.mem_append_left _ hy, e⟩
   ·exact ⟨x, by simp, e.symm⟩
  ·rintro ⟨y, hy, e⟩
   rcases List.mem_append.1 hy with hy | hy
   ·exact .inl ⟨y, hy, e⟩
   ·simp only [List.mem_singleton] at hy; subst hy; exact .inr e.symm
theorem colInv_fold (key : Li → κ) : ∀ (l pre : List Li) (L : List (Col κ)), colInv key pre L → colInv key (pre ++ l) (l.foldl (colStep key) L)
 | [], pre, L, h => by simpa using h
 | x :: l, pre, L, h => by
  have := colInv_fold key l (pre ++ [x]) _ (colInv_step key pre L x h)
  simpa using this
theorem colsOf_inv (key : Li → κ) (l : List Li) : colInv key l (colsOf key l) := by
 have := colInv_fold key l [] [] ⟨by simp, by simp⟩
 simpa [colsOf] using this
end
def sumE (lim : Int) (l : List Int) : Int × Int := if -lim ≤ l.sum ∧ l.sum ≤ lim then (l.sum, 0) else (0, 4)
theorem F51.eq (lim : Int) (h0 : 0 ≤ lim) (h1 : lim ≤ 9223372036854775807) (l : List Int) (hl : l.length ≤ 1000000) (hx : ∀ x ∈ l, inW x) : F51.f lim l = some (sumE lim l) := by
 unfold F51.f
 rw [F74.eq l hl hx, Option.bind_some]
 unfold sumv sumE F36.f
 rw [w64 (n := -lim) (by omega) (by omega)]
 by_cases c : inW l.sum
 ·simp only [if_pos c, if_true]
  by_cases c1 : -lim ≤ l.sum
  ·by_cases c2 : l.sum ≤ lim
   ·simp [c1, c2]
   ·simp [c1, c2]
  ·have c1' : ¬ l.sum ≥ -lim := c1
   simp [c1, c1']
 ·have : ¬ (-lim ≤ l.sum ∧ l.sum ≤ lim) := fun h => c (by unfold inW; omega)
  simp [c, this]
theorem bothf.eq (lim : Int) (h0 : 0 ≤ lim) (h1 : lim ≤ 9223372036854775807) (A B : List Int) (ha : A.length ≤ 1000000) (hb : B.length ≤ 1000000) (hxa : ∀ x ∈ A, inW x) (hxb : ∀ x ∈ B, inW x) : bothf lim A B = some (if (-lim ≤ A.sum ∧ A.sum ≤ lim) ∧ (-lim ≤ B.sum ∧ B.sum ≤ lim) then (A.sum, B.sum, 0) else (0, 0, 4)) := by
 unfold bothf
 rw [F51.eq lim h0 h1 A ha hxa, Option.bind_some, F51.eq lim h0 h1 B hb hxb]
 unfold sumE
 by_cases c1 : -lim ≤ A.sum ∧ A.sum ≤ lim
 ·by_cases c2 : -lim ≤ B.sum ∧ B.sum ≤ lim
  ·simp [c1, c2]
  ·simp [c1, c2]
 ·simp [c1]
def okA (l : List Li) : Prop := l.length ≤ 1000000 ∧ ∀ x ∈ l, inW x.f2 ∧ inW x.f3
theorem amts_in {κ : Type} [DecidableEq κ] (key : Li → κ) {l : List Li} (h : okA l) (k : κ) : (amtsOf key l k).length ≤ 1000000 ∧ (basesOf key l k).length ≤ 1000000 ∧ (∀ x ∈ amtsOf key l k, inW x) ∧ ∀ x ∈ basesOf key l k, inW x := by
 have hf : (l.filter (fun x => decide (key x = k))).length ≤ l.length := List.length_filter_le _ _; refine ⟨by unfold amtsOf; rw [List.length_map]; have := h.1; omega, by unfold basesOf; rw [List.length_map]; have := h.1; omega, fun y hy => ?_, fun y hy => ?_⟩
 ·obtain ⟨x, hx, rfl⟩ := List.mem_map.1 hy; exact (h.2 x ((List.mem_filter.1 hx).1)).1
 ·obtain ⟨x, hx, rfl⟩ := List.mem_map.1 hy; exact (h.2 x ((List.mem_filter.1 hx).1)).2
def bal1 (l : List Li) (c : ByteArray) : Bool := decide ((amtsOf curKey l c).sum = 0 ∧ (basesOf curKey l c).sum = 0)
def balv (l : List Li) : Bool := l.all (fun x => bal1 l x.f1)
theorem balL_eq (l : List Li) (h : okA l) : ∀ L : List (Col ByteArray), (∀ q ∈ L, q.2.1 = amtsOf curKey l q.1 ∧ q.2.2 = basesOf curKey l q.1) → balL L = some (L.all (fun q => bal1 l q.1))
 | [], _ => rfl
 | q :: L, hq => by
  obtain ⟨h1, h2⟩ := hq q List.mem_cons_self; obtain ⟨b1, b2, b3, b4⟩ := amts_in curKey h q.1; have ih := balL_eq l h L (fun z hz => hq z (List.mem_cons_of_mem _ hz)); simp only [balL, h1, h2, bothf.eq 0 (by omega) (by omega) _ _ b1 b2 b3 b4, Option.bind_some, List.all_cons]
  unfold bal1
  by_cases c : (amtsOf curKey l q.1).sum = 0 ∧ (basesOf curKey l q.1).sum = 0
  ·obtain ⟨c1, c2⟩ := c; have e : (if (-0 ≤ (amtsOf curKey l q.1).sum ∧ (amtsOf curKey l q.1).sum ≤ 0) ∧ (-0 ≤ (basesOf curKey l q.1).sum ∧ (basesOf curKey l q.1).sum ≤ 0) then ((amtsOf curKey l q.1).sum, (basesOf curKey l q.1).sum, (0 : Int)) else (0, 0, 4)) = ((amtsOf curKey l q.1).sum, (basesOf curKey l q.1).sum, 0) := if_pos (by omega); rw [e]; simp only [if_true, c1, c2, and_self, decide_true, Bool.true_and]; exact ih
  ·have e : (if (-0 ≤ (amtsOf curKey l q.1).sum ∧ (amtsOf curKey l q.1).sum ≤ 0) ∧ (-0 ≤ (basesOf curKey l q.1).sum ∧ (basesOf curKey l q.1).sum ≤ 0) then ((amtsOf curKey l q.1).sum, (basesOf curKey l q.1).sum, (0 : Int)) else (0, 0, 4)) = (0, 0, 4) := if_neg (by omega); rw [e, decide_eq_false c]
   rfl
theorem all_keys (l : List Li) (p : ByteArray → Bool) (L : List (Col ByteArray)) (h : ∀ k, k ∈ L.map (·.1) ↔ ∃ x ∈ l, curKey x = k) : L.all (fun q => p q.1) = l.all (fun x => p x.f1) := by
 rw [Bool.eq_iff_iff, List.all_eq_true, List.all_eq_true]
 constructor
 ·intro hq x hx; obtain ⟨q, hq2, e⟩ := List.mem_map.1 ((h x.f1).2 ⟨x, hx, rfl⟩); rw [← e]; exact hq q hq2
 ·intro hx q hq; obtain ⟨x, hx2, e⟩ := (h q.1).1 (List.mem_map.2 ⟨q, hq, rfl⟩); rw [← e]; exact hx x hx2
theorem F23.eq (l : List Li) (h : okA l) : F23.f l = some (balv l) := by
 unfold F23.f balv
 rw [if_pos h.1]; have hi := colsOf_inv curKey l; rw [balL_eq l h _ hi.1, all_keys l (bal1 l) _ hi.2]
theorem refSums.go (l : List Li) (h : okA l) (c : ByteArray) : ∀ (n i : Nat) (A B : List Int), i + n = l.length → A = amtsOf curKey (l.take i) c → B = basesOf curKey (l.take i) c → Ev (fun k => F50.l0 k l c A B (i : Int)) ((sumv (amtsOf curKey l c)).1, (sumv (basesOf curKey l c)).1, (sumv (amtsOf curKey l c)).2 && (sumv (basesOf curKey l c)).2)
 | 0, i, A, B, hi, hA, hB => by
  have ht : l.take i = l := List.take_of_length_le (by omega); rw [ht] at hA hB; obtain ⟨b1, b2, b3, b4⟩ := amts_in curKey h c; refine Ev.succ ?_; simp only [F50.l0, if_neg (show ¬ (i : Int) < (l.length : Int) by omega)]; rw [hA, hB]; refine Ev.bind (refSum.eq _ b1 b3) (Ev.bind (refSum.eq _ b2 b4) ?_)
  cases hh : (sumv (amtsOf curKey l c)).2 with
  | true => simp only [if_true, Bool.true_and]; exact Ev.const _
  | false => simp only [Bool.false_eq_true, if_false, Bool.false_and]; exact Ev.const _
 | n + 1, i, A, B, hi, hA, hB => by
  have hlt : i < l.length := by omega
  have hll := h.1; have hrd : rd_T24 l (i : Int) = l[i] := by simp [rd_T24, hlt]
  have hAl : A.length ≤ i := by
   rw [hA]; unfold amtsOf; rw [List.length_map]; refine Nat.le_trans (List.length_filter_le _ _) ?_; rw [List.length_take]; omega
  have hBl : B.length ≤ i := by
   rw [hB]; unfold basesOf; rw [List.length_map]; refine Nat.le_trans (List.length_filter_le _ _) ?_; rw [List.length_take]; omega
  refine Ev.succ ?_; simp only [F50.l0, if_pos (show (i : Int) < (l.length : Int) by omega), if_pos (show (0 : Int) ≤ (i : Int) by omega), hrd, byt_inj, w64s (show i ≤ 1000000000 by omega)]
  by_cases e : l[i].f1 = c
  ·simp only [if_pos e, if_pos (show A.length < 17592186044416 by omega), if_pos (show B.length < 17592186044416 by omega)]; refine refSums.go l h c n (i + 1) _ _ (by omega) ?_ ?_
   ·rw [hA, List.take_succ_eq_append_getElem hlt, amts_snoc, if_pos (show curKey l[i] = c from e)]
   ·rw [hB, List.take_succ_eq_append_getElem hlt, bases_snoc, if_pos (show curKey l[i] = c from e)]
  ·simp only [if_neg e]; refine refSums.go l h c n (i + 1) _ _ (by omega) ?_ ?_
   ·rw [hA, List.take_succ_eq_append_getElem hlt, amts_snoc, if_neg (show ¬ curKey l[i] = c from e), List.append_nil]
   ·rw [hB, List.take_succ_eq_append_getElem hlt, bases_snoc, if_neg (show ¬ curKey l[i] = c from e), List.append_nil]
theorem refSums.eq (l : List Li) (h : okA l) (c : ByteArray) : Ev (fun k => F50.f k l c) ((sumv (amtsOf curKey l c)).1, (sumv (basesOf curKey l c)).1, (sumv (amtsOf curKey l c)).2 && (sumv (basesOf curKey l c)).2) := by
 unfold F50.f
 exact refSums.go l h c l.length 0 [] [] (by omega) (by simp [amtsOf]) (by simp [basesOf])
def cursOf (l : List Li) : List ByteArray := l.foldl (fun o x => insC o x.f1) []
theorem cursOf_fold (l : List Li) : cursOf l = isortC (l.map (·.f1)) := by
 unfold cursOf isortC
 rw [List.foldl_map]
theorem cursOf_mem (l : List Li) (c : ByteArray) : c ∈ cursOf l ↔ ∃ x ∈ l, x.f1 = c := by
 rw [cursOf_fold]
 unfold isortC
 rw [foldC_mem]
 simp
theorem cursOf_keys (l : List Li) : isortC ((colsOf curKey l).map (·.1)) = cursOf l := by
 rw [cursOf_fold]; refine sortedC_ext (foldC_sorted _ [] List.Pairwise.nil) (foldC_sorted _ [] List.Pairwise.nil) (fun x => ?_)
 unfold isortC
 rw [foldC_mem, foldC_mem, (colsOf_inv curKey l).2 x]
 simp [curKey]
theorem cursOf_len (l : List Li) : (cursOf l).length ≤ l.length := by
 have : ∀ (m : List Li) (o : List ByteArray), (m.foldl (fun o x => insC o x.f1) o).length ≤ o.length + m.length := by
  intro m
  induction m with
  | nil => intro o; simp
  | cons x m ih =>
   intro o; have h1 := ih (insC o x.f1); have h2 := insC_length o x.f1; simp only [List.foldl_cons, List.length_cons]
   omega
 have h := this l []
 simpa [cursOf] using h
theorem refBal.go (l : List Li) (h : okA l) (C : List ByteArray) (hC : C.length ≤ 1000000) : ∀ (n i : Nat), i + n = C.length → Ev (fun k => F24.l0 k l C (i : Int)) ((C.drop i).all (bal1 l))
 | 0, i, hi => by
  refine Ev.succ ?_; simp only [F24.l0, if_neg (show ¬ (i : Int) < (C.length : Int) by omega)]; rw [List.drop_eq_nil_of_le (by omega)]; exact Ev.const _
 | n + 1, i, hi => by
  have hlt : i < C.length := by omega
  have hrd : rdOf ByteArray.empty C (i : Int) = C[i] := by simp [rdOf, hlt]
  have ih := refBal.go l h C hC n (i + 1) (by omega); refine Ev.succ ?_; simp only [F24.l0, if_pos (show (i : Int) < (C.length : Int) by omega), if_pos (show (0 : Int) ≤ (i : Int) by omega), hrd, w64s (show i ≤ 1000000000 by omega)]; refine Ev.bind (refSums.eq l h C[i]) ?_; rw [List.drop_eq_getElem_cons hlt, List.all_cons]
  unfold bal1 sumv
  by_cases c1 : (amtsOf curKey l C[i]).sum = 0
  ·by_cases c2 : (basesOf curKey l C[i]).sum = 0
   ·have e1 : inW (amtsOf curKey l C[i]).sum := by rw [c1]; unfold inW; omega
    have e2 : inW (basesOf curKey l C[i]).sum := by rw [c2]; unfold inW; omega
    have e1' : inW 0 := by unfold inW; omega
    simp only [c1, c2, if_pos e1', Bool.and_self, if_true, and_self, decide_true, Bool.true_and]; exact ih
   ·have e1' : inW 0 := by unfold inW; omega
    by_cases e2 : inW (basesOf curKey l C[i]).sum
    ·simp only [c1, if_pos e1', if_pos e2, Bool.and_self, if_true, if_neg c2, c2, and_false, decide_false, Bool.false_and]; exact Ev.const _
    ·simp only [c1, if_pos e1', if_neg e2, Bool.and_false, Bool.false_eq_true, if_false, c2, and_false, decide_false, Bool.false_and]; exact Ev.const _
  ·by_cases e1 : inW (amtsOf curKey l C[i]).sum
   ·by_cases e2 : inW (basesOf curKey l C[i]).sum
    ·simp only [if_pos e1, if_pos e2, Bool.and_self, if_true, if_neg c1, c1, false_and, decide_false, Bool.false_and]; exact Ev.const _
    ·simp only [if_pos e1, if_neg e2, Bool.and_false, Bool.false_eq_true, if_false, c1, false_and, decide_false, Bool.false_and]; exact Ev.const _
   ·simp only [if_neg e1, Bool.false_and, Bool.false_eq_true, if_false, c1, false_and, decide_false]; exact Ev.const _
theorem refBal.eq (l : List Li) (h : okA l) : Ev (fun k => F24.f k l) (balv l) := by
 unfold F24.f F49.f
 simp only [if_pos h.1, Option.bind_some]; have h1 := refBal.go l h (cursOf l) (Nat.le_trans (cursOf_len l) h.1) (cursOf l).length 0 (by omega)
 have h2 : ((cursOf l).drop 0).all (bal1 l) = balv l := by
  rw [List.drop_zero]
  unfold balv
  rw [Bool.eq_iff_iff, List.all_eq_true, List.all_eq_true]
  constructor
  ·exact fun hc x hx => hc _ ((cursOf_mem l _).2 ⟨x, hx, rfl⟩)
  ·intro hx c hc; obtain ⟨x, hx2, rfl⟩ := (cursOf_mem l c).1 hc; exact hx x hx2
 rw [h2] at h1; exact h1
def dayv (n : Int) : Bool := decide (0 ≤ n ∧ n ≤ 109572)
def bef (y : Int) : Int := 365 * (y - 1900) + ((y - 1) / 4 - (y - 1) / 100 + (y - 1) / 400 - 460)
def lpv (y : Int) : Bool := (decide (y % 4 = 0) && !decide (y % 100 = 0)) || decide (y % 400 = 0)
theorem F86.eq {y : Int} (h0 : 1900 ≤ y) (h1 : y ≤ 2200) : F86.f y = some (bef y) := by
 unfold F86.f bef
 rw [w64 (n := y - 1) (by omega) (by omega), w64 (n := y - 1900) (by omega) (by omega), w64 (n := 365 * (y - 1900)) (by omega) (by omega)]; rw [Int.tdiv_eq_ediv_of_nonneg (by omega), Int.tdiv_eq_ediv_of_nonneg (by omega), Int.tdiv_eq_ediv_of_nonneg (by omega)]; rw [w64 (n := (y - 1) / 4) (by omega) (by omega), w64 (n := (y - 1) / 100) (by omega) (by omega), w64 (n := (y - 1) / 400) (by omega) (by omega)]; rw [w64 (n := (y - 1) / 4 - (y - 1) / 100) (by omega) (by omega)]; rw [w64 (n := (y - 1) / 4 - (y - 1) / 100 + (y - 1) / 400) (by omega) (by omega)]; rw [w64 (n := (y - 1) / 4 - (y - 1) / 100 + (y - 1) / 400 - 474) (by omega) (by omega)]; rw [w64 (n := (y - 1) / 4 - (y - 1) / 100 + (y - 1) / 400 - 474 + 18) (by omega) (by omega)]; rw [w64 (n := (y - 1) / 4 - (y - 1) / 100 + (y - 1) / 400 - 474 + 18 - 4) (by omega) (by omega)]; rw [w64 (by omega) (by omega)]
 congr 1
 omega
theorem F99.eq {y : Int} (h0 : 1900 ≤ y) : F99.f y = some (lpv y) := by
 unfold F99.f lpv
 rw [Int.tmod_eq_emod_of_nonneg (by omega), Int.tmod_eq_emod_of_nonneg (by omega), Int.tmod_eq_emod_of_nonneg (by omega)]
 by_cases a : y % 4 = 0 <;> by_cases b : y % 100 = 0 <;> by_cases c : y % 400 = 0 <;> simp [a, b, c] <;> omega
def ml (lp : Bool) (m : Int) : Int := if m = 2 then (if lp = true then 29 else 28) else rd months (m - 1)
theorem F87.eq {y m : Int} (h0 : 1900 ≤ y) (h1 : 1 ≤ m) (h2 : m ≤ 12) : F87.f y m months = some (ml (lpv y) m) := by
 unfold F87.f ml
 rw [if_neg (by decide), if_neg (by omega), if_neg (by omega), F99.eq h0]
 by_cases e : m = 2
 ·rw [if_pos e, if_pos e, Option.bind_some]
  cases lpv y with
  | true => rfl
  | false => subst e; rfl
 ·rw [if_neg e, if_neg e]
def tl (lp : Bool) : Nat → Int
 | 0 => 0
 | j + 1 => ml lp (12 - (j : Int)) + tl lp j
theorem tl_12 (lp : Bool) : tl lp 12 = if lp = true then 366 else 365 := by cases lp <;> rfl
theorem ml_range (lp : Bool) : ∀ j : Nat, j < 12 → 28 ≤ ml lp (12 - (j : Int)) ∧ ml lp (12 - (j : Int)) ≤ 31 := by
 intro j hj; have : ∀ lp : Bool, ∀ j : Fin 12, 28 ≤ ml lp (12 - ((j.val : Nat) : Int)) ∧ ml lp (12 - ((j.val : Nat) : Int)) ≤ 31 := by decide
 exact this lp ⟨j, hj⟩
theorem F77.go1 {y : Int} (h0 : 1900 ≤ y) (d : Int) : ∀ (j : Nat) (n : Int), j ≤ 12 → 0 ≤ n → n < tl (lpv y) j → n ≤ 1000 → ∃ a b, Ev (fun k => F77.l1 k n months y (13 - (j : Int)) d) (y, a, b, 0)
 | 0, n, _, hn, h, _ => by simp [tl] at h; omega
 | j + 1, n, hj, hn, h, hn2 => by
  have hr := ml_range (lpv y) j (by omega); have e : (13 : Int) - ((j + 1 : Nat) : Int) = 12 - (j : Int) := by omega
  have hL : F87.f y (13 - ((j + 1 : Nat) : Int)) months = some (ml (lpv y) (12 - (j : Int))) := by
   rw [e]; exact F87.eq h0 (by omega) (by omega)
  by_cases c : n ≥ ml (lpv y) (12 - (j : Int))
  ·obtain ⟨a, b, ih⟩ := F77.go1 h0 d j (n - ml (lpv y) (12 - (j : Int))) (by omega) (by omega) (by simp only [tl] at h; omega) (by omega); refine ⟨a, b, Ev.succ ?_⟩; simp only [F77.l1, hL, Option.bind_some, if_pos c]; rw [w64 (n := n - _) (by omega) (by omega), w64 (n := 13 - ((j + 1 : Nat) : Int) + 1) (by omega) (by omega), show (13 : Int) - ((j + 1 : Nat) : Int) + 1 = 13 - (j : Int) by omega]; exact ih
  ·refine ⟨13 - ((j + 1 : Nat) : Int), wrap64 (n + 1), Ev.succ ?_⟩; simp only [F77.l1, hL, Option.bind_some, if_neg c]; exact Ev.const _
theorem bef_next (y : Int) : bef (y + 1) - bef y = if lpv y = true then 366 else 365 := by
 unfold bef lpv
 by_cases a : y % 4 = 0 <;> by_cases b : y % 100 = 0 <;> by_cases c : y % 400 = 0 <;> simp [a, b, c] <;> omega
theorem F77.end_ {n y : Int} (d : Int) (h0 : 1900 ≤ y) (h1 : y ≤ 2199) (hb : bef y ≤ n) (hn : n < bef (y + 1)) (hn2 : n ≤ 109572) : ∃ a b, Ev (fun k => F77.j1 k n months y 0 d) (y, a, b, 0) := by
 have hd := bef_next y; have hbb : -1000 ≤ bef y ∧ bef y ≤ 110000 := by unfold bef; omega
 obtain ⟨a, b, ih⟩ := F77.go1 h0 d 12 (n - bef y) (by omega) (by omega) (by rw [tl_12]; omega) (by split at hd <;> omega); refine ⟨a, b, Ev.succ ?_⟩; simp only [F77.j1, F86.eq h0 (by omega : y ≤ 2200), Option.bind_some]; rw [w64 (n := n - _) (by omega) (by omega)]; exact ih
theorem F77.go0 {n : Int} (d : Int) (hn2 : n ≤ 109572) : ∀ (j : Nat) (y : Int), y + j = 2199 → 1900 ≤ y → bef y ≤ n → ∃ y' a b, Ev (fun k => F77.l0 k n months y 0 d) (y', a, b, 0)
 | 0, y, hy, h0, hb => by
  obtain rfl : y = 2199 := by omega
  obtain ⟨a, b, ih⟩ := F77.end_ (n := n) d (y := 2199) (by omega) (by omega) hb (by rw [show bef (2199 + 1) = 109573 by decide]; omega) hn2; refine ⟨2199, a, b, Ev.succ ?_⟩; simp only [F77.l0, if_neg (show ¬ (2199 : Int) < 2199 by omega)]; exact ih
 | j + 1, y, hy, h0, hb => by
  by_cases c : bef (y + 1) ≤ n
  ·obtain ⟨y', a, b, ih⟩ := F77.go0 d hn2 j (y + 1) (by omega) (by omega) c; refine ⟨y', a, b, Ev.succ ?_⟩; simp only [F77.l0, if_pos (show y < 2199 by omega), w64 (n := y + 1) (by omega) (by omega), F86.eq (y := y + 1) (by omega) (by omega), Option.bind_some, if_pos c]; exact ih
  ·obtain ⟨a, b, ih⟩ := F77.end_ (n := n) d (y := y) h0 (by omega) hb (by omega) hn2; refine ⟨y, a, b, Ev.succ ?_⟩; simp only [F77.l0, if_pos (show y < 2199 by omega), w64 (n := y + 1) (by omega) (by omega), F86.eq (y := y + 1) (by omega) (by omega), Option.bind_some, if_neg c]; exact ih
theorem F85.eq (n : Int) : F85.f n = some (dayv n) := by
 unfold F85.f dayv
 by_cases a : n ≥ 0 <;> by_cases b : n ≤ 109572 <;> simp [a, b] <;> omega
theorem F77.ok (n : Int) : ∃ y a b, Ev (fun k => F77.f k n months) (y, a, b, if dayv n = true then 0 else 11) := by
 unfold F77.f
 simp only [F85.eq, Option.bind_some]
 by_cases c : dayv n = true
 ·simp only [if_pos c]; have hc : 0 ≤ n ∧ n ≤ 109572 := of_decide_eq_true c; have hy : bef (1900 + n / 366) ≤ n := by unfold bef; omega
  rw [Int.tdiv_eq_ediv_of_nonneg hc.1, w64 (n := n / 366) (by omega) (by omega), w64 (n := 1900 + n / 366) (by omega) (by omega)]; exact F77.go0 0 hc.2 (2199 - (1900 + n / 366)).toNat _ (by omega) (by omega) hy
 ·simp only [if_neg c]; exact ⟨0, 0, 0, Ev.const _⟩
def prn (a : Int) : Bool := decide (32 ≤ a) && decide (a ≤ 126)
def plv (b : ByteArray) : Nat → Nat → Bool
 | 0, _ => true
 | n + 1, i => prn (bt b (i : Int)) && plv b n (i + 1)
def plainv (b : ByteArray) : Bool := plv b b.size 0 && decide ((b.size : Int) ≤ 60)
theorem printable.eq (a : Int) : F80.f a = some (prn a) := by
 unfold F80.f prn
 by_cases c : a ≥ 32
 ·simp [c]
 ·have c2 : ¬ 32 ≤ a := c
  simp [c2]
theorem every.go (b : ByteArray) (hb : b.size ≤ 1000) : ∀ n i, i + n = b.size → Ev (fun k => F62b.l0 k b (b.size : Int) (i : Int)) (plv b n i)
 | 0, i, h => by
  refine Ev.succ ?_; simp only [F62b.l0, if_neg (show ¬ (i : Int) < (b.size : Int) by omega), plv]; exact Ev.const _
 | n + 1, i, h => by
  have ih := every.go b hb n (i + 1) (by omega); refine Ev.succ ?_; simp only [F62b.l0, if_pos (show (i : Int) < (b.size : Int) by omega), if_pos (show (0 : Int) ≤ (i : Int) by omega), printable.eq, Option.bind_some, plv, w64s (show i ≤ 1000000000 by omega)]
  cases prn (bt b (i : Int)) with
  | true => simp only [if_true, Bool.true_and]; exact ih
  | false => simp only [Bool.false_eq_true, if_false, Bool.false_and]; exact Ev.const _
theorem F70.eq (b : ByteArray) : Ev (fun k => F70.f k b) (plainv b) := by
 unfold F70.f plainv
 by_cases c : (b.size : Int) ≤ 60
 ·simp only [if_pos c, decide_eq_true c, Bool.and_true]
  unfold F62b.f
  exact Ev.bind (every.go b (by omega) b.size 0 (by omega)) (Ev.const _)
 ·simp only [if_neg c, decide_eq_false c, Bool.and_false]; exact Ev.const _
theorem refPlain.go (b : ByteArray) (hb : b.size ≤ 1000000000000000) : ∀ n i, i + n = b.size → Ev (fun k => F71.l0 k b (i : Int)) (plv b n i && decide ((b.size : Int) ≤ 60))
 | 0, i, h => by
  refine Ev.succ ?_; simp only [F71.l0, if_neg (show ¬ (i : Int) < (b.size : Int) by omega), plv, Bool.true_and]; exact Ev.const _
 | n + 1, i, h => by
  have ih := refPlain.go b hb n (i + 1) (by omega); refine Ev.succ ?_; simp only [F71.l0, if_pos (show (i : Int) < (b.size : Int) by omega), if_pos (show (0 : Int) ≤ (i : Int) by omega), plv]; rw [w64 (n := (i : Int) + 1) (by omega) (by omega), show (i : Int) + 1 = ((i + 1 : Nat) : Int) by omega]
  unfold prn
  by_cases c1 : bt b (i : Int) < 32
  ·simp only [if_pos c1, decide_eq_false (show ¬ 32 ≤ bt b (i : Int) by omega), Bool.false_and]; exact Ev.const _
  ·simp only [if_neg c1, decide_eq_true (show 32 ≤ bt b (i : Int) by omega), Bool.true_and]
   by_cases c2 : bt b (i : Int) > 126
   ·simp only [if_pos c2, decide_eq_false (show ¬ bt b (i : Int) ≤ 126 by omega), Bool.false_and]; exact Ev.const _
   ·simp only [if_neg c2, decide_eq_true (show bt b (i : Int) ≤ 126 by omega), Bool.true_and]; exact ih
theorem refPlain.eq (b : ByteArray) (hb : b.size ≤ 1000000000000000) : Ev (fun k => F71.f k b) (plainv b) := by
 unfold F71.f plainv
 exact refPlain.go b hb b.size 0 (by omega)
theorem isDay.eq (n : Int) : Ev (fun k => F57.f k n months) (dayv n) := by
 obtain ⟨y, a, b, h⟩ := F77.ok n
 unfold F57.f
 refine Ev.bind h ?_
 cases dayv n with
 | true => simp only [if_true]; exact Ev.const _
 | false => simp only [Bool.false_eq_true, if_false]; exact Ev.const _
theorem refDay.eq (n : Int) : F58.f n = some (dayv n) := by
 unfold F58.f dayv
 by_cases c : n ≥ 0
 ·rw [if_pos c]
  by_cases c2 : n ≤ 109572
  ·rw [decide_eq_true c2, decide_eq_true ⟨c, c2⟩]
  ·rw [decide_eq_false c2, decide_eq_false (fun h => c2 h.2)]
 ·rw [if_neg c, decide_eq_false (fun h => c h.1)]
def okH (x : En) : Prop := x.f1.size ≤ 1000000000000000 ∧ x.f5.size ≤ 1000000000000000 ∧ x.f6.size ≤ 1000000000000000
def hd3 (x : En) (b : Bool) : Int := if b = true then 10 else if plainv x.f5 = true then (if (x.f8.length : Int) < 2 then 2 else if (x.f8.length : Int) > 100 then 9 else 0) else 5
def hd2 (x : En) (b : Bool) : Int := if b = true then 11 else hd3 x (decide (x.f4 < 1) || decide (x.f4 > 7))
def hd1 (x : En) (b : Bool) : Int := if b = true then 7 else hd2 x (!(dayv x.f2 && dayv x.f3))
def hd0 (x : En) (b : Bool) : Int := if b = true then 3 else hd1 x (!(codev x.f1 && codev x.f6))
def headv (x : En) : Int := hd0 x (decide (x.f0 < 0) || (decide (x.f0 > 4000) || (decide (x.f7 < 0) || decide (x.f7 > 4000))))
theorem head.j3 (x : En) (b : Bool) : Ev (fun k => F43.j3 k b x.f0 x.f1 x.f2 x.f3 x.f4 x.f5 x.f6 x.f7 x.f8) (hd3 x b) := by
 refine Ev.succ ?_; simp only [F43.j3]
 unfold hd3
 cases b with
 | true => simp only [if_true]; exact Ev.const _
 | false =>
  simp only [Bool.false_eq_true, if_false]; refine Ev.bind (F70.eq x.f5) ?_
  cases plainv x.f5 with
  | true =>
   simp only [if_true]
   by_cases c1 : (x.f8.length : Int) < 2
   ·simp only [if_pos c1]; exact Ev.const _
   ·by_cases c2 : (x.f8.length : Int) > 100
    ·simp only [if_neg c1, if_pos c2]; exact Ev.const _
    ·simp only [if_neg c1, if_neg c2]; exact Ev.const _
  | false => simp only [Bool.false_eq_true, if_false]; exact Ev.const _
theorem head.j2 (x : En) (b : Bool) : Ev (fun k => F43.j2 k b x.f0 x.f1 x.f2 x.f3 x.f4 x.f5 x.f6 x.f7 x.f8) (hd2 x b) := by
 refine Ev.succ ?_; simp only [F43.j2]
 unfold hd2
 cases b with
 | true => simp only [if_true]; exact Ev.const _
 | false =>
  simp only [Bool.false_eq_true, if_false]
  by_cases c : x.f4 < 1
  ·simp only [if_pos c, decide_eq_true c, Bool.true_or]; exact head.j3 x true
  ·simp only [if_neg c, decide_eq_false c, Bool.false_or]; exact head.j3 x _
theorem head.j1 (x : En) (b : Bool) : Ev (fun k => F43.j1 k b months x.f0 x.f1 x.f2 x.f3 x.f4 x.f5 x.f6 x.f7 x.f8) (hd1 x b) := by
 refine Ev.succ ?_; simp only [F43.j1]
 unfold hd1
 cases b with
 | true => simp only [if_true]; exact Ev.const _
 | false =>
  simp only [Bool.false_eq_true, if_false]; refine Ev.bind (isDay.eq x.f2) ?_
  cases dayv x.f2 with
  | false => simp only [Bool.false_eq_true, if_false, Bool.false_and, Bool.not_false]; exact head.j2 x true
  | true =>
   simp only [if_true, Bool.true_and]; exact Ev.bind (isDay.eq x.f3) (head.j2 x _)
theorem head.j0 (x : En) (hx : okH x) (b : Bool) : Ev (fun k => F43.j0 k b months x.f0 x.f1 x.f2 x.f3 x.f4 x.f5 x.f6 x.f7 x.f8) (hd0 x b) := by
 refine Ev.succ ?_; simp only [F43.j0]
 unfold hd0
 cases b with
 | true => simp only [if_true]; exact Ev.const _
 | false =>
  simp only [Bool.false_eq_true, if_false]; refine Ev.bind (F33.eq x.f1) ?_
  cases codev x.f1 with
  | false => simp only [Bool.false_eq_true, if_false, Bool.false_and, Bool.not_false]; exact head.j1 x true
  | true =>
   simp only [if_true, Bool.true_and]; exact Ev.bind (F33.eq x.f6) (head.j1 x _)
theorem F43.eq (x : En) (hx : okH x) : Ev (fun k => F43.f k x.f0 x.f1 x.f2 x.f3 x.f4 x.f5 x.f6 x.f7 x.f8 months) (headv x) := by
 unfold F43.f headv
 by_cases c1 : x.f0 < 0
 ·simp only [if_pos c1, decide_eq_true c1, Bool.true_or]; exact head.j0 x hx true
 by_cases c2 : x.f0 > 4000
 ·simp only [if_neg c1, if_pos c2, decide_eq_false c1, decide_eq_true c2, Bool.false_or, Bool.true_or]; exact head.j0 x hx true
 by_cases c3 : x.f7 < 0
 ·simp only [if_neg c1, if_neg c2, if_pos c3, decide_eq_false c1, decide_eq_false c2, decide_eq_true c3, Bool.false_or, Bool.true_or]; exact head.j0 x hx true
 simp only [if_neg c1, if_neg c2, if_neg c3, decide_eq_false c1, decide_eq_false c2, decide_eq_false c3, Bool.false_or]; exact head.j0 x hx _
theorem rhead.j3 (x : En) (hx : okH x) (b : Bool) : Ev (fun k => F44.j3 k b x.f0 x.f1 x.f2 x.f3 x.f4 x.f5 x.f6 x.f7 x.f8) (hd3 x b) := by
 refine Ev.succ ?_; simp only [F44.j3]
 unfold hd3
 cases b with
 | true => simp only [if_true]; exact Ev.const _
 | false =>
  simp only [Bool.false_eq_true, if_false]; refine Ev.bind (refPlain.eq x.f5 hx.2.1) ?_
  cases plainv x.f5 with
  | true =>
   simp only [if_true]
   by_cases c1 : (x.f8.length : Int) < 2
   ·simp only [if_pos c1]; exact Ev.const _
   ·by_cases c2 : (x.f8.length : Int) > 100
    ·simp only [if_neg c1, if_pos c2]; exact Ev.const _
    ·simp only [if_neg c1, if_neg c2]; exact Ev.const _
  | false => simp only [Bool.false_eq_true, if_false]; exact Ev.const _
theorem rhead.j2 (x : En) (hx : okH x) (b : Bool) : Ev (fun k => F44.j2 k b x.f0 x.f1 x.f2 x.f3 x.f4 x.f5 x.f6 x.f7 x.f8) (hd2 x b) := by
 refine Ev.succ ?_; simp only [F44.j2]
 unfold hd2
 cases b with
 | true => simp only [if_true]; exact Ev.const _
 | false =>
  simp only [Bool.false_eq_true, if_false]
  by_cases c : x.f4 < 1
  ·simp only [if_pos c, decide_eq_true c, Bool.true_or]; exact rhead.j3 x hx true
  ·simp only [if_neg c, decide_eq_false c, Bool.false_or]; exact rhead.j3 x hx _
theorem rhead.j1 (x : En) (hx : okH x) (b : Bool) : Ev (fun k => F44.j1 k b x.f0 x.f1 x.f2 x.f3 x.f4 x.f5 x.f6 x.f7 x.f8) (hd1 x b) := by
 refine Ev.succ ?_; simp only [F44.j1]
 unfold hd1
 cases b with
 | true => simp only [if_true]; exact Ev.const _
 | false =>
  simp only [Bool.false_eq_true, if_false]; simp only [refDay.eq, Option.bind_some]
  cases dayv x.f2 with
  | false => simp only [Bool.false_eq_true, if_false, Bool.false_and, Bool.not_false]; exact rhead.j2 x hx true
  | true =>
   simp only [if_true, Bool.true_and]; exact rhead.j2 x hx _
theorem rhead.j0 (x : En) (hx : okH x) (b : Bool) : Ev (fun k => F44.j0 k b x.f0 x.f1 x.f2 x.f3 x.f4 x.f5 x.f6 x.f7 x.f8) (hd0 x b) := by
 refine Ev.succ ?_; simp only [F44.j0]
 unfold hd0
 cases b with
 | true => simp only [if_true]; exact Ev.const _
 | false =>
  simp only [Bool.false_eq_true, if_false]; refine Ev.bind (F38.eq x.f1 hx.1) ?_
  cases codev x.f1 with
  | false => simp only [Bool.false_eq_true, if_false, Bool.false_and, Bool.not_false]; exact rhead.j1 x hx true
  | true =>
   simp only [if_true, Bool.true_and]; exact Ev.bind (F38.eq x.f6 hx.2.2) (rhead.j1 x hx _)
theorem F44.eq (x : En) (hx : okH x) : Ev (fun k => F44.f k x.f0 x.f1 x.f2 x.f3 x.f4 x.f5 x.f6 x.f7 x.f8) (headv x) := by
 unfold F44.f headv
 by_cases c1 : x.f0 < 0
 ·simp only [if_pos c1, decide_eq_true c1, Bool.true_or]; exact rhead.j0 x hx true
 by_cases c2 : x.f0 > 4000
 ·simp only [if_neg c1, if_pos c2, decide_eq_false c1, decide_eq_true c2, Bool.false_or, Bool.true_or]; exact rhead.j0 x hx true
 by_cases c3 : x.f7 < 0
 ·simp only [if_neg c1, if_neg c2, if_pos c3, decide_eq_false c1, decide_eq_false c2, decide_eq_true c3, Bool.false_or, Bool.true_or]; exact rhead.j0 x hx true
 simp only [if_neg c1, if_neg c2, if_neg c3, decide_eq_false c1, decide_eq_false c2, decide_eq_false c3, Bool.false_or]; exact rhead.j0 x hx _
def chk (l : List Li) (bal : Bool) : Nat → Nat → Int × Int
 | 0, _ => if bal = true then (-1, 0) else (-1, 15)
 | n + 1, i => if linev (rd_T24 l (i : Int)) = 0 then chk l bal n (i + 1) else ((i : Int), linev (rd_T24 l (i : Int)))
def checkv (x : En) : Int × Int := if headv x = 0 then chk x.f8 (balv x.f8) x.f8.length 0 else (-1, headv x)
theorem check.go (l : List Li) (h : okA l) (hl : ∀ z ∈ l, okL z) (a0 : Int) (a1 : ByteArray) (a2 a3 a4 : Int) (a5 a6 : ByteArray) (a7 : Int) : ∀ n i, i + n = l.length → Ev (fun k => F16.l0 k l (l.length : Int) (i : Int) a0 a1 a2 a3 a4 a5 a6 a7 l) (chk l (balv l) n i)
 | 0, i, hi => by
  refine Ev.succ ?_; simp only [F16.l0, if_neg (show ¬ (i : Int) < (l.length : Int) by omega), F23.eq l h, Option.bind_some, chk]
  cases balv l with
  | true => simp only [if_true]; exact Ev.const _
  | false => simp only [Bool.false_eq_true, if_false]; exact Ev.const _
 | n + 1, i, hi => by
  have ih := check.go l h hl a0 a1 a2 a3 a4 a5 a6 a7 n (i + 1) (by omega); have hn := h.1; refine Ev.succ ?_; simp only [F16.l0, if_pos (show (i : Int) < (l.length : Int) by omega), if_pos (show (0 : Int) ≤ (i : Int) by omega), chk, w64s (show i ≤ 1000000000 by omega)]; refine Ev.bind (F14.eq _ (hl _ (rd24_mem (by omega)))) ?_
  by_cases c : linev (rd_T24 l (i : Int)) = 0
  ·simp only [if_pos c]; exact ih
  ·simp only [if_neg c]; exact Ev.const _
theorem F16.eq (x : En) (hx : okH x) (h : okA x.f8) (hl : ∀ z ∈ x.f8, okL z) : Ev (fun k => F16.f k x.f0 x.f1 x.f2 x.f3 x.f4 x.f5 x.f6 x.f7 x.f8 months) (checkv x) := by
 unfold F16.f checkv
 refine Ev.bind (F43.eq x hx) ?_
 by_cases c : headv x = 0
 ·simp only [if_pos c]; exact check.go x.f8 h hl _ _ _ _ _ _ _ _ x.f8.length 0 (by omega)
 ·simp only [if_neg c]; exact Ev.const _
theorem refCheck.go (l : List Li) (h : okA l) (hl : ∀ z ∈ l, okL z) (a0 : Int) (a1 : ByteArray) (a2 a3 a4 : Int) (a5 a6 : ByteArray) (a7 : Int) : ∀ n i, i + n = l.length → Ev (fun k => F17.l0 k (i : Int) a0 a1 a2 a3 a4 a5 a6 a7 l) (chk l (balv l) n i)
 | 0, i, hi => by
  refine Ev.succ ?_; simp only [F17.l0, if_neg (show ¬ (i : Int) < (l.length : Int) by omega), chk]; refine Ev.bind (refBal.eq l h) ?_
  cases balv l with
  | true => simp only [if_true]; exact Ev.const _
  | false => simp only [Bool.false_eq_true, if_false]; exact Ev.const _
 | n + 1, i, hi => by
  have ih := refCheck.go l h hl a0 a1 a2 a3 a4 a5 a6 a7 n (i + 1) (by omega); have hn := h.1; refine Ev.succ ?_; simp only [F17.l0, if_pos (show (i : Int) < (l.length : Int) by omega), if_pos (show (0 : Int) ≤ (i : Int) by omega), chk, w64s (show i ≤ 1000000000 by omega)]; refine Ev.bind (F15.eq _ (hl _ (rd24_mem (by omega)))) ?_
  by_cases c : linev (rd_T24 l (i : Int)) = 0
  ·simp only [if_pos c]; exact ih
  ·simp only [if_neg c]; exact Ev.const _
theorem refCheck.eq (x : En) (hx : okH x) (h : okA x.f8) (hl : ∀ z ∈ x.f8, okL z) : Ev (fun k => F17.f k x.f0 x.f1 x.f2 x.f3 x.f4 x.f5 x.f6 x.f7 x.f8) (checkv x) := by
 unfold F17.f checkv
 refine Ev.bind (F44.eq x hx) ?_
 by_cases c : headv x = 0
 ·simp only [if_pos c]; exact refCheck.go x.f8 h hl _ _ _ _ _ _ _ _ x.f8.length 0 (by omega)
 ·simp only [if_neg c]; exact Ev.const _
theorem G33_ok {x : En} (h : G33 x) : okH x := by
 obtain ⟨_, h1, _, _, _, h5, h6, _, _⟩ := h; exact ⟨by omega, by omega, by omega⟩
theorem lit_in {x : Int} (h : (Lit.int .i64 x).wf = true) : inW x := by
 unfold inW
 simp [Lit.wf, IntKind.min, IntKind.max, IntKind.bits, IntKind.signed] at h
 omega
theorem G24_okA {l : List Li} (h : ∀ z ∈ l, G24 z) (hl : l.length ≤ 150) : okA l := by
 refine ⟨by omega, fun z hz => ?_⟩; obtain ⟨_, _, h2, h3, _⟩ := h z hz; exact ⟨lit_in h2, lit_in h3⟩
end Go.Proofs.YtjeecehhcajfaaaDoor.M
end
section
namespace Go.Proofs.YtjeecehhcajfaaaDoor.M
open Go.RowKit Go.Proofs.YtjeecehhcajfaaaDoorW.PrintWords Go.Proofs.YtjeecehhcajfaaaDoorW.PrintLast
set_option linter.unusedVariables false
theorem pure_EntryCheck : F4.Pure := by
 intro x hx; have hlx : ∀ z ∈ x.f8, G24 z := hx.2.2.2.2.2.2.2.2.2; refine Ev.out (g := fun k => F4.f k x.f0 x.f1 x.f2 x.f3 x.f4 x.f5 x.f6 x.f7 x.f8 months) ?_
 unfold F4.f
 obtain ⟨b, hb, hb2⟩ := F12.ok x.f8; refine Ev.bind hb ?_
 cases b with
 | false =>
  simp only [Bool.false_eq_true, if_false]; exact Ev.bind F13.true (Ev.const _)
 | true =>
  simp only [if_true]; obtain ⟨n1, t1⟩ := hb2 rfl; have ha : ∀ z ∈ x.f8, okL z := fun z hz => G24_ok (hlx z hz) (t1 z hz); have hA := G24_okA hlx n1; refine Ev.bind (F16.eq x (G33_ok hx) hA ha) (Ev.bind (refCheck.eq x (G33_ok hx) hA ha) ?_); simp only [if_true]; exact Ev.bind F13.true (Ev.const _)
end Go.Proofs.YtjeecehhcajfaaaDoor.M
namespace Go.Proofs.YtjeecehhcajfaaaDoor.Pure
theorem EntryCheck : M.F4.Pure := M.pure_EntryCheck
end Go.Proofs.YtjeecehhcajfaaaDoor.Pure
end
section
namespace Go.Proofs.YtjeecehhcajfaaaDoor.M
open Go.ChangeShapes Go.WideShapes Go.ChangeAt Go.RowKit Go.Proofs.YtjeecehhcajfaaaDoorW.PrintWords Go.Proofs.YtjeecehhcajfaaaDoorW.PrintLast
abbrev laidL : List (String × DataW Unit) := [("accounting/days.lengths", Rows.laid_accounting_days_lengths)]
theorem gLen : Tryd.prog.globalNamed "accounting/days.lengths" = some 0 := by kernel_rfl
theorem tLen : (Tryd.prog.globals[0]?).map (·.type) = some 136 := by kernel_rfl
theorem cLen : Tryd.prog.cellsOf 136 = 12 := by kernel_rfl
theorem cInt : Tryd.prog.cellsOf 3 = 1 := by kernel_rfl
set_option maxRecDepth 100000 in
theorem tab_of_laid {W : World} (h : laidMetH Tryd.prog laidL W) : Tab W := by
 rw [MakeChecks.laidMetH_plain _ _ _ (by kernel_rfl)] at h; obtain ⟨ps, ⟨g0, t0, cs0, f0, p0, q0, hg0, ht0, hv0, hd0, _⟩, _⟩ := h; obtain rfl := Option.some.inj (gLen.symm.trans hg0); obtain rfl := Option.some.inj (tLen.symm.trans ht0); obtain ⟨xs, m1, rfl, hx1, hlen, hn3, hel⟩ := DataW.trod_array Tryd.underlying136 hd0
 have hxs : xs.map (·.1) = months.map (fun n => (DataW.lit (.int .i64 n) : DataW Unit)) := by
  have e := congrArg (fun y : DataW Unit × List MemPlace => y.1) hx1
  unfold Rows.laid_accounting_days_lengths at e
  injection e with e
  exact e.symm
 have each : ∀ i, i < 12 → cs0.toList[i]? = (months[i]?).map (Value.int .i64) := by
  intro i hi; have h1 := hel i hi; rw [cInt, Nat.mul_one] at h1; obtain ⟨x, hx⟩ : ∃ x, xs[i]? = some x := ⟨xs[i], List.getElem?_eq_getElem (by omega)⟩; rw [hx] at h1; obtain ⟨n, e1, e2, _⟩ := DataW.trod_int Tryd.underlying3 h1; have e3 := congrArg (fun l => l[i]?) hxs; simp only [List.getElem?_map, hx, Option.map_some, e2] at e3; have e4 := congrArg (fun l => l[0]?) e1; simp only [List.getElem?_take, List.getElem?_drop, Nat.add_zero, Nat.zero_lt_one, if_true, List.getElem?_cons_zero] at e4; rw [e4]
  cases hm : months[i]? with
  | none => rw [hm] at e3; cases e3
  | some m =>
   rw [hm] at e3; simp only [Option.map_some, Option.some.injEq, DataW.lit.injEq, Lit.int.injEq, true_and] at e3; rw [e3]
   rfl
 have hcs : cs0 = (months.map (Value.int .i64)).toArray := by
  rw [← Array.toList_inj]; apply List.ext_getElem?; intro i
  by_cases hi : i < 12
  ·rw [each i hi, List.getElem?_map]
  ·rw [List.getElem?_eq_none (by rw [hlen, cLen]; omega), List.getElem?_eq_none (by simp [months]; omega)]
 have hv := hv0; simp only [World.var?, gLen, Option.bind_some] at hv
 split at hv
 ·rename_i cs t fr hb
  obtain rfl := Option.some.inj hv; exact ⟨t, fr, by rw [hb, hcs]⟩
 ·cases hv
theorem door_met (os : Os) (args : Array Value) : laidMetH Tryd.prog laidL ((World.doorLaid Tryd.prog 400 os).forCall (fun _ _ => 0) ⟨#[], args, []⟩).memory :=
 laidMetH_of_parts3 (fuel := 8) (laidMet_of_run' 8 (by kernel_rfl) (by kernel_rfl)) (by kernel_rfl) (by kernel_rfl)
end Go.Proofs.YtjeecehhcajfaaaDoor.M
end
section
namespace Go.Proofs.YtjeecehhcajfaaaDoor.entryCheck
open Go.ChangeShapes Go.WideShapes Go.ChangeAt Go.RowKit Go.Proofs.YtjeecehhcajfaaaDoor.M Go.Proofs.YtjeecehhcajfaaaDoorW.PrintWords Go.Proofs.YtjeecehhcajfaaaDoorW.PrintLast
open Go.ChangeMaps (open_string shut_string)
set_option linter.unusedVariables false
theorem own : ownKnob Tryd.prog.godebug = none := by kernel_rfl
theorem laidOut : laidOutB Tryd.prog = true := by kernel_rfl
set_option maxRecDepth 100000 in
set_option maxHeartbeats 4000000 in
theorem lifted (os : Os) (started : os.Started) (H : Type) (enc : TypeId × Value → H) :
  ReturnsInHanded {} Tryd.checked os 4 .any (fun w args => (Rows.entryCheckSpec.pre enc Tryd.prog Tryd.f4 Rows.entryCheckRow.domain false w args ∧ laidMetH Tryd.prog Rows.entryCheckRow.laid w) ∧ sizedMet enc Tryd.prog Tryd.f4 (OpenSpec.ofChange Rows.entryCheckSpec) false w args) (Rows.entryCheckSpec.post enc Tryd.prog Tryd.f4 false true false false) := by
 refine returnsInHanded_of_change_and (C := Tryd.checked) (X := fun w _ => laidMetH Tryd.prog Rows.entryCheckRow.laid w) (fun _ _ _ hh h => h.of_heap hh) own started (by kernel_rfl) Tryd.func4
  (ChangeSpec.witness_shaped (enc := enc) (C := Tryd.checked) (os := os) (X := fun w _ => laidMetH Tryd.prog Rows.entryCheckRow.laid w) false (World.doorLaid Tryd.prog 400 os) #[.agg #[.int .i64 0, .string ByteArray.empty, .int .i64 0, .int .i64 0, .int .i64 0, .string ByteArray.empty, .string ByteArray.empty, .int .i64 0, .slice none 0 0]] 8 rfl (World.shaped_of_RefB (by kernel_rfl) (by kernel_rfl)) (by kernel_rfl) (by kernel_rfl) (by kernel_rfl) (door_met os _)) ?_
 intro W base args ds gs before hval0 hW hcnd hsz0 hL _; have hsz : (DataW.weightsEach Tryd.prog (Tryd.f4.params.toList ++ Rows.entryCheckSpec.plain.varTypes Tryd.prog) (ds ++ gs)).all (· ≤ reachBytes) = true := hsz0; have hval : ∀ (j : Nat) t v, Tryd.f4.params[j]? = some t → args[j]? = some v → Value.okWide Tryd.prog W .any base t v := hval0; have hW' := hW; obtain ⟨p, q, hA0, hV, rfl, hfz, hnd⟩ := hW; have hA : DataW.TrodAll enc Tryd.prog W 0 (fun _ => true) true Tryd.f4.params.toList args.toList ds p := hA0; rw [Tryd.params4] at hA hval hsz; obtain ⟨v0, vs0, d0, ds0, p0, q0, hargs, rfl, rfl, h0, r0⟩ := trodAll_cons hA; obtain ⟨rfl, rfl, rfl⟩ := trodAll_nil r0; obtain rfl : args = #[v0] := by cases args; simp_all
 obtain ⟨rfl, rfl⟩ := trodVars_none hV; obtain ⟨cs0, rfl⟩ : ∃ cs, v0 = .agg cs := by have z := (hval 0 33 v0 rfl rfl); simp only [Value.okWide, Tryd.underlying33] at z; obtain ⟨cs, e, _⟩ := z; exact ⟨cs, e⟩
 have k0 := h0; have lt0 : ∀ x ∈ p0, x.block < W.heap.size := by obtain ⟨m, hm⟩ := k0; exact DataW.trod_lt m _ _ _ hm
 obtain ⟨x0, K0, g0⟩ : ∃ x_ : S33, k33.K W x_ cs0.toList ∧ (G33 x_) := by obtain ⟨f, hf⟩ := h0; exact (opens33).get enc W 0 _ _ f _ _ hf (weights_at hsz (j := 0) (t := 33) rfl rfl)
 obtain ⟨A0_8, c0_8, e0, L0_8, C0_8⟩ := k33_open K0; obtain rfl : cs0 = #[.int .i64 x0.f0, .string x0.f1, .int .i64 x0.f2, .int .i64 x0.f3, .int .i64 x0.f4, .string x0.f5, .string x0.f6, .int .i64 x0.f7, .slice A0_8 x0.f8.length c0_8] := by rw [← Array.toList_inj]; exact e0
 clear hA0 hval0 hsz0 hsz; obtain ⟨k, h⟩ := Pure.EntryCheck x0 g0; refine (M.F4.calls (k := k) (r := true) (w := W) (hr0_8 := C0_8) (hc0_8 := L0_8) (hr1 := kTab_of (tab_of_laid hL)) (hc1 := Nat.le_refl _) (h := h)).mono fun e W' ⟨he, bel0⟩ => ?_; have bel : Below W.heap.size W W' := by first | exact bel0 | exact bel0.below | (obtain ⟨nd, rfl⟩ := bel0; exact pw_below_drewN (Below.refl _ _) nd)
 subst he; exact ⟨_, rfl, _, _, _, [], _, [], hW', trodAll_mk1 (shut_bool Tryd.underlying4 _), (trodAll_cons_mk (Below.trod laidOut (by kernel_rfl) (of_decide_eq_true (by kernel_rfl)) k0 bel lt0) trodAll_mk0), rfl, bel.frame _, fun h => by cases h⟩
theorem over : Rows.entryCheckRow.holds Tryd.pinned (OpenSpec.ofChange Rows.entryCheckSpec) :=
 OpenClaim.holds_of_wide 4 Tryd.f4 rfl rfl rfl rfl rfl rfl rfl ⟨rfl, rfl, rfl, rfl, rfl⟩ rfl rfl rfl rfl rfl (by kernel_rfl) Tryd.func4 (by kernel_rfl)
  (of_decide_eq_true (by kernel_rfl)) (by unfold Func.isWrapper; first | (rw [if_pos (by decide +kernel)]; kernel_rfl) | (rw [if_neg (by decide +kernel)]; exact ⟨rfl, rfl⟩))
  (fun os started H enc _ => lifted os started H enc)
theorem proved : Rows.EntryCheckCardSaid :=
 Claim7.holds_tied_plain_at .later [] [.data] true (true, "be3c0a6bf7d168cfecf7312c4a458ffdf88559f71113c4694bf92cbd7a7be984") false
  over (fun _ h => by cases h) (by kernel_rfl) (fun _ h => by cases h) entryCheck_row_tie rfl ⟨rfl, rfl⟩ (by kernel_rfl) rfl
  (fun f fn hf hfn => by
   obtain rfl : f = 4 := Option.some.inj ((show Tryd.prog.funcNamed "accounting/accountinglaw12.EntryCheck" = some 4 by kernel_rfl).symm.trans hf) |>.symm; obtain rfl : fn = Tryd.f4 := (Option.some.inj (Tryd.func4.symm.trans hfn)).symm
   exact ⟨by kernel_rfl, fun j t ht => by
    rw [Tryd.params4] at ht; have hm : t ∈ [33] := by simpa using Array.mem_of_getElem? ht
    have hall : ([33].all fun u => !Tryd.prog.wantsStandIn u) = true := by kernel_rfl
    exact (show Tryd.prog.wantsStandIn t = false by simpa using List.all_eq_true.1 hall t hm)⟩)
  (by kernel_rfl)
#print axioms proved
end Go.Proofs.YtjeecehhcajfaaaDoor.entryCheck
namespace Go.Proofs.YtjeecehhcajfaaaDoor
theorem entryCheck_holds : Rows.EntryCheckCardSaid := entryCheck.proved
end Go.Proofs.YtjeecehhcajfaaaDoor
end
