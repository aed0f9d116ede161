/- The law of the movements, walked and shown. Part 2 of 2 of what is the claim's own. -/
import Derived.Test.YtegpappenmhndaaDoorQBB1
import Derived.Test.YtegpappenmhndaaDoorQBB2
import Derived.Test.YtegpappenmhndaaDoorQSo1
import Derived.Test.YtegpappenmhndaaDoorQBB3
import Derived.Test.YtegpappenmhndaaDoorQBB8
import Derived.Test.YtegpappenmhndaaDoorRows
import Derived.ProofKit
import Derived.LaidMore
import Derived.OpenShut
import Derived.Stop.Joined
import Derived.WalkKit
import Derived.ShutString
import Derived.ChangeOld
import Derived.Below
import Derived.SizedLaws
import Derived.Test.YtegpappenmhndaaDoorCards
import Derived.Test.YtegpappenmhndaaDoorTie
import Derived.SevenTiedAt
import Derived.Test.YtegpappenmhndaaDoorQBB6
import Derived.Test.YtegpappenmhndaaDoorQBB4
namespace Go.Proofs.YtegpappenmhndaaDoor.M
theorem pso2_0 {p : Prop} (h : p := by rw [hg]; exact (below_size (by repeat (first | (with_reducible first | exact HB.out | apply below_alloc | apply pw_below_drewN | apply below_drew1 | refine below_set ?_ GE101.out) | exact HB.out)))) : p := h
theorem pso2_1 {p : Prop} (h : p := by rw [hg]; exact Nat.ne_of_lt (blk_lt (g := gb101) (o := .cells #[.int .i64 a1_0, .int .i64 a1_1, .string a1_2, .int .i64 a1_3, .int .i64 a1_4, .int .i64 a1_5, .string a1_6, .int .i64 a1_7] 23 (0, 0)) (by (with_reducible repeat (first | refine blk_drewN ?_ _ | refine blk_drew ?_ | refine blk_alloc ?_ _)); exact BK101.out))) : p := h
theorem pso2_2 {p : Prop} (h : p := by rw [hg]; exact Nat.ne_of_gt (blk_lt (g := gb101) (o := .cells #[.int .i64 a1_0, .int .i64 a1_1, .string a1_2, .int .i64 a1_3, .int .i64 a1_4, .int .i64 a1_5, .string a1_6, .int .i64 a1_7] 23 (0, 0)) (by (with_reducible repeat (first | refine blk_drewN ?_ _ | refine blk_drew ?_ | refine blk_alloc ?_ _)); exact BK101.out))) : p := h
theorem pso2_3 {p : Prop} (h : p := by repeat (first | (with_reducible first | exact HB.out | apply below_alloc | apply pw_below_drewN | apply below_drew1 | refine below_set ?_ GE101.out | refine below_set ?_ GE103.out) | exact HB.out)) : p := h
theorem pso2_4 {p : Prop} (h : p := by (with_reducible repeat (first | refine blk_drewN ?_ _ | refine blk_drew ?_ | refine blk_alloc ?_ _)); exact BK103.out) : p := h
theorem pso2_5 {p : Prop} (h : p := by first | rfl | (simp [errW_none, errW_some] <;> rfl) | (simp only [← hji6]; first | rfl | (simp [errW_none, errW_some] <;> rfl)) | (simp [*, errW_none, errW_some] <;> rfl)) : p := h
theorem pso2_6 {p : Prop} (h : p := by first | (go_simp; done) | (go_simp; rfl)) : p := h
end Go.Proofs.YtegpappenmhndaaDoor.M
section
namespace Go.Proofs.YtegpappenmhndaaDoor.M
open Go.RowKit Go.Proofs.YtegpappenmhndaaDoorW.PrintWords Go.Proofs.YtegpappenmhndaaDoorW.PrintLast Go.Proofs.YtegpappenmhndaaDoorW.PrintMore
attribute [local go_sem] max2_int min2_int max_two min_two max_three min_three max_four min_four
set_option linter.unusedVariables false
set_option linter.unusedSimpArgs false
mutual
def F38.j0 : Nat → List (S23) → Int → Int → Int → ByteArray → Int → Int → Int → ByteArray → Int → Int → Int → ByteArray → Int → Int → Int → ByteArray → Int → Option (Int)
  | 0, _, _, _, _, _, _, _, _, _, _, _, _, _, _, _, _, _, _ => none
  | k + 1, x0, x6, x102000, x102001, x102002, x102003, x102004, x102005, x102006, x102007, x104000, x104001, x104002, x104003, x104004, x104005, x104006, x104007 => if x104002.toList = x102002.toList then (F38.j1 k x0 (x104003 != x6) x102000 x102001 x102002 x102003 x102004 x102005 x102006 x102007 x104000 x104001 x104002 x104003 x104004 x104005 x104006 x104007) else (F38.j1 k x0 true x102000 x102001 x102002 x102003 x102004 x102005 x102006 x102007 x104000 x104001 x104002 x104003 x104004 x104005 x104006 x104007)
def F38.j1 : Nat → List (S23) → Bool → Int → Int → ByteArray → Int → Int → Int → ByteArray → Int → Int → Int → ByteArray → Int → Int → Int → ByteArray → Int → Option (Int)
  | 0, _, _, _, _, _, _, _, _, _, _, _, _, _, _, _, _, _, _ => none
  | k + 1, x0, x33, x102000, x102001, x102002, x102003, x102004, x102005, x102006, x102007, x104000, x104001, x104002, x104003, x104004, x104005, x104006, x104007 => if x33 = true then (some 28) else (if x102001 < x104001 then (some 17) else (F38.l0 k x0 x102004 0 x102000 x102001 x102002 x102003 x102004 x102005 x102006 x102007 x104000 x104001 x104002 x104003 x104004 x104005 x104006 x104007))
def F38.l0 : Nat → List (S23) → Int → Int → Int → Int → ByteArray → Int → Int → Int → ByteArray → Int → Int → Int → ByteArray → Int → Int → Int → ByteArray → Int → Option (Int)
  | 0, _, _, _, _, _, _, _, _, _, _, _, _, _, _, _, _, _, _, _ => none
  | k + 1, x0, x7, x8, x102000, x102001, x102002, x102003, x102004, x102005, x102006, x102007, x104000, x104001, x104002, x104003, x104004, x104005, x104006, x104007 => if x8 < (x0.length : Int) then (if 0 ≤ x8 then (if ((rd_T23 x0 x8).f3) = x102003 then (if ((rd_T23 x0 x8).f7) = x102007 then (F38.l0 k x0 (wrap64 (x7 + ((rd_T23 x0 x8).f4))) (wrap64 (x8 + 1)) x102000 x102001 x102002 x102003 x102004 x102005 x102006 x102007 x104000 x104001 x104002 x104003 x104004 x104005 x104006 x104007) else (F38.l0 k x0 x7 (wrap64 (x8 + 1)) x102000 x102001 x102002 x102003 x102004 x102005 x102006 x102007 x104000 x104001 x104002 x104003 x104004 x104005 x104006 x104007)) else (F38.l0 k x0 x7 (wrap64 (x8 + 1)) x102000 x102001 x102002 x102003 x102004 x102005 x102006 x102007 x104000 x104001 x104002 x104003 x104004 x104005 x104006 x104007)) else (none)) else (if x102003 = 5 then (some 0) else (if x7 > x104004 then (some 21) else (some 0)))
end
def F38.f (k : Nat) (l0 : List (S23)) (a1_0 : Int) (a1_1 : Int) (a1_2 : ByteArray) (a1_3 : Int) (a1_4 : Int) (a1_5 : Int) (a1_6 : ByteArray) (a1_7 : Int) : Option (Int) := if a1_7 > (l0.length : Int) then (some 28) else (if 0 ≤ (wrap64 (a1_7 - 1)) then (if (wrap64 (a1_7 - 1)) < (l0.length : Int) then (if a1_3 = 3 then (F38.j0 k l0 2 a1_0 a1_1 a1_2 a1_3 a1_4 a1_5 a1_6 a1_7 ((rd_T23 l0 (wrap64 (a1_7 - 1))).f0) ((rd_T23 l0 (wrap64 (a1_7 - 1))).f1) ((rd_T23 l0 (wrap64 (a1_7 - 1))).f2) ((rd_T23 l0 (wrap64 (a1_7 - 1))).f3) ((rd_T23 l0 (wrap64 (a1_7 - 1))).f4) ((rd_T23 l0 (wrap64 (a1_7 - 1))).f5) ((rd_T23 l0 (wrap64 (a1_7 - 1))).f6) ((rd_T23 l0 (wrap64 (a1_7 - 1))).f7)) else (F38.j0 k l0 1 a1_0 a1_1 a1_2 a1_3 a1_4 a1_5 a1_6 a1_7 ((rd_T23 l0 (wrap64 (a1_7 - 1))).f0) ((rd_T23 l0 (wrap64 (a1_7 - 1))).f1) ((rd_T23 l0 (wrap64 (a1_7 - 1))).f2) ((rd_T23 l0 (wrap64 (a1_7 - 1))).f3) ((rd_T23 l0 (wrap64 (a1_7 - 1))).f4) ((rd_T23 l0 (wrap64 (a1_7 - 1))).f5) ((rd_T23 l0 (wrap64 (a1_7 - 1))).f6) ((rd_T23 l0 (wrap64 (a1_7 - 1))).f7))) else (none)) else (none))
set_option maxHeartbeats 8000000 in
set_option maxRecDepth 100000 in
theorem F38.calls (k : Nat) (A0 : Option Addr) (c0 : Nat) (l0 : List (S23)) (a1_0 : Int) (a1_1 : Int) (a1_2 : ByteArray) (a1_3 : Int) (a1_4 : Int) (a1_5 : Int) (a1_6 : ByteArray) (a1_7 : Int) (r : Int) (w : World) (hr0 : Kd.C k23 w A0 l0.length l0) (hc0 : l0.length ≤ c0) (h : F38.f k l0 a1_0 a1_1 a1_2 a1_3 a1_4 a1_5 a1_6 a1_7 = some r) :
    Calls Tryd.prog 38 #[.slice A0 l0.length c0, .agg #[.int .i64 a1_0, .int .i64 a1_1, .string a1_2, .int .i64 a1_3, .int .i64 a1_4, .int .i64 a1_5, .string a1_6, .int .i64 a1_7]] w fun e w' => e = .returned (.int .i64 r) ∧ Below w.heap.size w w' := by
 have hu23 := Tryd.underlying23; have hu3 := Tryd.underlying3; have hu9 := Tryd.underlying9; have HR0 := Aside0.mk hr0; have HC0 := Aside0.mk hc0; clear hr0 hc0; have HB := Aside0.mk (Below.refl w.heap.size w)
 unfold F38.f at h
 have H := h; clear h
 by_cases c3 : a1_7 > (l0.length : Int)
 ·rw [if_pos c3] at H; have c3b0 : decide ((l0.length : Int) < a1_7) = true := decide_eq_true c3; clear c3; obtain rfl := Option.some.inj H; go_enter Tryd.func38, Tryd.ntmps38
  go_wp2_with (first | ((with_reducible refine gate_dst (N := 3) rfl ?_); refine box_event ?hg (N := 3) ?hd (cs := #[.int .i64 a1_0, .int .i64 a1_1, .string a1_2, .int .i64 a1_3, .int .i64 a1_4, .int .i64 a1_5, .string a1_6, .int .i64 a1_7]) (t := 23) ?hr ?_; (case hd => rfl); (case hg => rfl); (case hr => first | (go_simp; done) | (go_simp; rfl)); intro gb101 hg w4 hbox hb; have BK101 := Aside0.mk (hbox); have GW101 := Aside0.mk ((pbb2_6 : w.heap.size ≤ gb101)); have GE101 := Aside0.mk ((pbb2_6 : w.heap.size ≤ gb101)); replace HB := Aside0.mk (below_step pbb2_3 hb); clear hb hbox hg; obtain ⟨hcz5_0, hcz5_1, hcz5_2, hcz5_3, hcz5_4, hcz5_5, hcz5_6, hcz5_7⟩ := cz8 BK101.out; obtain ⟨hfz5_0, hfz5_1, hfz5_2, hfz5_3, hfz5_4, hfz5_5, hfz5_6, hfz5_7⟩ := fz8 BK101.out))
  repeat (go_quiet (first | ((with_reducible refine gate_dst (N := 3) rfl ?_); refine box_event ?hg (N := 3) ?hd (cs := #[.int .i64 a1_0, .int .i64 a1_1, .string a1_2, .int .i64 a1_3, .int .i64 a1_4, .int .i64 a1_5, .string a1_6, .int .i64 a1_7]) (t := 23) ?hr ?_; (case hd => rfl); (case hg => rfl); (case hr => first | (go_simp; done) | (go_simp; rfl)); intro gb101 hg w4 hbox hb; have BK101 := Aside0.mk (hbox); have GW101 := Aside0.mk ((pbb2_6 : w.heap.size ≤ gb101)); have GE101 := Aside0.mk ((pbb2_6 : w.heap.size ≤ gb101)); replace HB := Aside0.mk (below_step pbb2_3 hb); clear hb hbox hg; obtain ⟨hcz5_0, hcz5_1, hcz5_2, hcz5_3, hcz5_4, hcz5_5, hcz5_6, hcz5_7⟩ := cz8 BK101.out; obtain ⟨hfz5_0, hfz5_1, hfz5_2, hfz5_3, hfz5_4, hfz5_5, hfz5_6, hfz5_7⟩ := fz8 BK101.out)); try go_wp2_with (first | ((with_reducible refine gate_dst (N := 3) rfl ?_); refine box_event ?hg (N := 3) ?hd (cs := #[.int .i64 a1_0, .int .i64 a1_1, .string a1_2, .int .i64 a1_3, .int .i64 a1_4, .int .i64 a1_5, .string a1_6, .int .i64 a1_7]) (t := 23) ?hr ?_; (case hd => rfl); (case hg => rfl); (case hr => first | (go_simp; done) | (go_simp; rfl)); intro gb101 hg w4 hbox hb; have BK101 := Aside0.mk (hbox); have GW101 := Aside0.mk ((pbb2_6 : w.heap.size ≤ gb101)); have GE101 := Aside0.mk ((pbb2_6 : w.heap.size ≤ gb101)); replace HB := Aside0.mk (below_step pbb2_3 hb); clear hb hbox hg; obtain ⟨hcz5_0, hcz5_1, hcz5_2, hcz5_3, hcz5_4, hcz5_5, hcz5_6, hcz5_7⟩ := cz8 BK101.out; obtain ⟨hfz5_0, hfz5_1, hfz5_2, hfz5_3, hfz5_4, hfz5_5, hfz5_6, hfz5_7⟩ := fz8 BK101.out)))
  go_ret
  exact ⟨pbb2_5, pbb2_9⟩
 ·rw [if_neg c3] at H; have c3b0 : decide ((l0.length : Int) < a1_7) = false := decide_eq_false c3; clear c3; obtain ⟨ji6, hji6⟩ : ∃ j_ : Int, (wrap64 (a1_7 - 1)) = j_ := ⟨_, rfl⟩; (first | rw [hji6] at H | simp only [hji6] at H); have hji6w : (IntKind.i64.wrap (a1_7 - 1)) = ji6 := (i64_w _).trans hji6
  by_cases c7 : 0 ≤ (ji6)
  ·rw [if_pos c7] at H; have c7b0 := decide_eq_true c7; clear c7
   by_cases c8 : (ji6) < (l0.length : Int)
   ·rw [if_pos c8] at H; have c8b0 := decide_eq_true c8; clear c8; have HC9 := Aside0.mk H; clear H; go_enter Tryd.func38, Tryd.ntmps38
    go_upto_if 22 with (first | ((with_reducible refine gate_dst (N := 3) rfl ?_); refine box_event ?hg (N := 3) ?hd (cs := #[.int .i64 a1_0, .int .i64 a1_1, .string a1_2, .int .i64 a1_3, .int .i64 a1_4, .int .i64 a1_5, .string a1_6, .int .i64 a1_7]) (t := 23) ?hr ?_; (case hd => rfl); (case hg => rfl); (case hr => first | (go_simp; done) | (go_simp; rfl)); intro gb101 hg w10 hbox hb; have BK101 := Aside0.mk (hbox); have GW101 := Aside0.mk ((pbb2_6 : w.heap.size ≤ gb101)); have GE101 := Aside0.mk ((pbb2_6 : w.heap.size ≤ gb101)); replace HB := Aside0.mk (below_step pbb2_3 hb); clear hb hbox hg; obtain ⟨hcz11_0, hcz11_1, hcz11_2, hcz11_3, hcz11_4, hcz11_5, hcz11_6, hcz11_7⟩ := cz8 BK101.out; obtain ⟨hfz11_0, hfz11_1, hfz11_2, hfz11_3, hfz11_4, hfz11_5, hfz11_6, hfz11_7⟩ := fz8 BK101.out; have p102 : 0 ≤ ((ji6) : Int) := of_decide_eq_true pbb2_4; have q102 : (ji6) < (l0.length : Int) := of_decide_eq_true pbb2_4; obtain ⟨ad102, e102, hx102_0, hx102_1, hx102_2, hx102_3, hx102_4, hx102_5, hx102_6, hx102_7⟩ := up8 HB.out (at_T23 HR0.out (ji6) p102 q102); cases e102; replace p102 := eq_true p102; replace q102 := eq_true q102) | ((with_reducible refine gate_dst (N := 5) rfl ?_); refine box_event ?hg (N := 5) ?hd (cs := #[.int .i64 0, .int .i64 0, .string (⟨#[]⟩ : ByteArray), .int .i64 0, .int .i64 0, .int .i64 0, .string (⟨#[]⟩ : ByteArray), .int .i64 0]) (t := 23) ?hr ?_; (case hd => rfl); (case hg => rfl); (case hr => first | (go_simp; done) | (go_simp; rfl)); intro gb103 hg w12 hbox hb; have BK103 := Aside0.mk (hbox); have GW103 := Aside0.mk ((pso2_0 : w.heap.size ≤ gb103)); have GE103 := Aside0.mk ((pso2_0 : w.heap.size ≤ gb103)); replace HB := Aside0.mk (below_step pbb2_9 hb); have NB101_103 := Aside0.mk ((pso2_1 : gb101 ≠ gb103)); have NB103_101 := Aside0.mk ((pso2_2 : gb103 ≠ gb101)); replace BK101 := Aside0.mk (blk_below (g := gb101) (o := .cells #[.int .i64 a1_0, .int .i64 a1_1, .string a1_2, .int .i64 a1_3, .int .i64 a1_4, .int .i64 a1_5, .string a1_6, .int .i64 a1_7] 23 (0, 0)) pbb2_10 hb); clear hb hbox hg; have hnb13 := NB103_101.out; have hnc13 := NB101_103.out; obtain ⟨hcz14_0, hcz14_1, hcz14_2, hcz14_3, hcz14_4, hcz14_5, hcz14_6, hcz14_7⟩ := cz8 BK103.out; obtain ⟨hfz14_0, hfz14_1, hfz14_2, hfz14_3, hfz14_4, hfz14_5, hfz14_6, hfz14_7⟩ := fz8 BK103.out; obtain ⟨hcz15_0, hcz15_1, hcz15_2, hcz15_3, hcz15_4, hcz15_5, hcz15_6, hcz15_7⟩ := cz8 BK101.out; obtain ⟨hfz15_0, hfz15_1, hfz15_2, hfz15_3, hfz15_4, hfz15_5, hfz15_6, hfz15_7⟩ := fz8 BK101.out))
    repeat (go_quiet (first | ((with_reducible refine gate_dst (N := 3) rfl ?_); refine box_event ?hg (N := 3) ?hd (cs := #[.int .i64 a1_0, .int .i64 a1_1, .string a1_2, .int .i64 a1_3, .int .i64 a1_4, .int .i64 a1_5, .string a1_6, .int .i64 a1_7]) (t := 23) ?hr ?_; (case hd => rfl); (case hg => rfl); (case hr => first | (go_simp; done) | (go_simp; rfl)); intro gb101 hg w10 hbox hb; have BK101 := Aside0.mk (hbox); have GW101 := Aside0.mk ((pbb2_6 : w.heap.size ≤ gb101)); have GE101 := Aside0.mk ((pbb2_6 : w.heap.size ≤ gb101)); replace HB := Aside0.mk (below_step pbb2_3 hb); clear hb hbox hg; obtain ⟨hcz11_0, hcz11_1, hcz11_2, hcz11_3, hcz11_4, hcz11_5, hcz11_6, hcz11_7⟩ := cz8 BK101.out; obtain ⟨hfz11_0, hfz11_1, hfz11_2, hfz11_3, hfz11_4, hfz11_5, hfz11_6, hfz11_7⟩ := fz8 BK101.out; have p102 : 0 ≤ ((ji6) : Int) := of_decide_eq_true pbb2_4; have q102 : (ji6) < (l0.length : Int) := of_decide_eq_true pbb2_4; obtain ⟨ad102, e102, hx102_0, hx102_1, hx102_2, hx102_3, hx102_4, hx102_5, hx102_6, hx102_7⟩ := up8 HB.out (at_T23 HR0.out (ji6) p102 q102); cases e102; replace p102 := eq_true p102; replace q102 := eq_true q102) | ((with_reducible refine gate_dst (N := 5) rfl ?_); refine box_event ?hg (N := 5) ?hd (cs := #[.int .i64 0, .int .i64 0, .string (⟨#[]⟩ : ByteArray), .int .i64 0, .int .i64 0, .int .i64 0, .string (⟨#[]⟩ : ByteArray), .int .i64 0]) (t := 23) ?hr ?_; (case hd => rfl); (case hg => rfl); (case hr => first | (go_simp; done) | (go_simp; rfl)); intro gb103 hg w12 hbox hb; have BK103 := Aside0.mk (hbox); have GW103 := Aside0.mk ((pso2_0 : w.heap.size ≤ gb103)); have GE103 := Aside0.mk ((pso2_0 : w.heap.size ≤ gb103)); replace HB := Aside0.mk (below_step pbb2_9 hb); have NB101_103 := Aside0.mk ((pso2_1 : gb101 ≠ gb103)); have NB103_101 := Aside0.mk ((pso2_2 : gb103 ≠ gb101)); replace BK101 := Aside0.mk (blk_below (g := gb101) (o := .cells #[.int .i64 a1_0, .int .i64 a1_1, .string a1_2, .int .i64 a1_3, .int .i64 a1_4, .int .i64 a1_5, .string a1_6, .int .i64 a1_7] 23 (0, 0)) pbb2_10 hb); clear hb hbox hg; have hnb13 := NB103_101.out; have hnc13 := NB101_103.out; obtain ⟨hcz14_0, hcz14_1, hcz14_2, hcz14_3, hcz14_4, hcz14_5, hcz14_6, hcz14_7⟩ := cz8 BK103.out; obtain ⟨hfz14_0, hfz14_1, hfz14_2, hfz14_3, hfz14_4, hfz14_5, hfz14_6, hfz14_7⟩ := fz8 BK103.out; obtain ⟨hcz15_0, hcz15_1, hcz15_2, hcz15_3, hcz15_4, hcz15_5, hcz15_6, hcz15_7⟩ := cz8 BK101.out; obtain ⟨hfz15_0, hfz15_1, hfz15_2, hfz15_3, hfz15_4, hfz15_5, hfz15_6, hfz15_7⟩ := fz8 BK101.out)); go_upto_if 22 with (first | ((with_reducible refine gate_dst (N := 3) rfl ?_); refine box_event ?hg (N := 3) ?hd (cs := #[.int .i64 a1_0, .int .i64 a1_1, .string a1_2, .int .i64 a1_3, .int .i64 a1_4, .int .i64 a1_5, .string a1_6, .int .i64 a1_7]) (t := 23) ?hr ?_; (case hd => rfl); (case hg => rfl); (case hr => first | (go_simp; done) | (go_simp; rfl)); intro gb101 hg w10 hbox hb; have BK101 := Aside0.mk (hbox); have GW101 := Aside0.mk ((pbb2_6 : w.heap.size ≤ gb101)); have GE101 := Aside0.mk ((pbb2_6 : w.heap.size ≤ gb101)); replace HB := Aside0.mk (below_step pbb2_3 hb); clear hb hbox hg; obtain ⟨hcz11_0, hcz11_1, hcz11_2, hcz11_3, hcz11_4, hcz11_5, hcz11_6, hcz11_7⟩ := cz8 BK101.out; obtain ⟨hfz11_0, hfz11_1, hfz11_2, hfz11_3, hfz11_4, hfz11_5, hfz11_6, hfz11_7⟩ := fz8 BK101.out; have p102 : 0 ≤ ((ji6) : Int) := of_decide_eq_true pbb2_4; have q102 : (ji6) < (l0.length : Int) := of_decide_eq_true pbb2_4; obtain ⟨ad102, e102, hx102_0, hx102_1, hx102_2, hx102_3, hx102_4, hx102_5, hx102_6, hx102_7⟩ := up8 HB.out (at_T23 HR0.out (ji6) p102 q102); cases e102; replace p102 := eq_true p102; replace q102 := eq_true q102) | ((with_reducible refine gate_dst (N := 5) rfl ?_); refine box_event ?hg (N := 5) ?hd (cs := #[.int .i64 0, .int .i64 0, .string (⟨#[]⟩ : ByteArray), .int .i64 0, .int .i64 0, .int .i64 0, .string (⟨#[]⟩ : ByteArray), .int .i64 0]) (t := 23) ?hr ?_; (case hd => rfl); (case hg => rfl); (case hr => first | (go_simp; done) | (go_simp; rfl)); intro gb103 hg w12 hbox hb; have BK103 := Aside0.mk (hbox); have GW103 := Aside0.mk ((pso2_0 : w.heap.size ≤ gb103)); have GE103 := Aside0.mk ((pso2_0 : w.heap.size ≤ gb103)); replace HB := Aside0.mk (below_step pbb2_9 hb); have NB101_103 := Aside0.mk ((pso2_1 : gb101 ≠ gb103)); have NB103_101 := Aside0.mk ((pso2_2 : gb103 ≠ gb101)); replace BK101 := Aside0.mk (blk_below (g := gb101) (o := .cells #[.int .i64 a1_0, .int .i64 a1_1, .string a1_2, .int .i64 a1_3, .int .i64 a1_4, .int .i64 a1_5, .string a1_6, .int .i64 a1_7] 23 (0, 0)) pbb2_10 hb); clear hb hbox hg; have hnb13 := NB103_101.out; have hnc13 := NB101_103.out; obtain ⟨hcz14_0, hcz14_1, hcz14_2, hcz14_3, hcz14_4, hcz14_5, hcz14_6, hcz14_7⟩ := cz8 BK103.out; obtain ⟨hfz14_0, hfz14_1, hfz14_2, hfz14_3, hfz14_4, hfz14_5, hfz14_6, hfz14_7⟩ := fz8 BK103.out; obtain ⟨hcz15_0, hcz15_1, hcz15_2, hcz15_3, hcz15_4, hcz15_5, hcz15_6, hcz15_7⟩ := cz8 BK101.out; obtain ⟨hfz15_0, hfz15_1, hfz15_2, hfz15_3, hfz15_4, hfz15_5, hfz15_6, hfz15_7⟩ := fz8 BK101.out)))
    (try simp only [Act.put, List.setIfInBounds_toArray, List.set_cons_zero, List.set_cons_succ])
    go_cut [6] (fun v6 wc => ∃ (kq : Nat) (x6_8 : Int), v6 = .int .i64 x6_8 ∧ Aside0 (F38.j0 kq l0 x6_8 a1_0 a1_1 a1_2 a1_3 a1_4 a1_5 a1_6 a1_7 ((rd_T23 l0 (ji6)).f0) ((rd_T23 l0 (ji6)).f1) ((rd_T23 l0 (ji6)).f2) ((rd_T23 l0 (ji6)).f3) ((rd_T23 l0 (ji6)).f4) ((rd_T23 l0 (ji6)).f5) ((rd_T23 l0 (ji6)).f6) ((rd_T23 l0 (ji6)).f7) = some r) ∧ Aside0 (kq ≤ k) ∧ Aside0 (wc.heap[gb101]? = some (.cells #[.int .i64 a1_0, .int .i64 a1_1, .string a1_2, .int .i64 a1_3, .int .i64 a1_4, .int .i64 a1_5, .string a1_6, .int .i64 a1_7] 23 (0, 0))) ∧ Aside0 (wc.heap[gb103]? = some (.cells #[.int .i64 ((rd_T23 l0 (ji6)).f0), .int .i64 ((rd_T23 l0 (ji6)).f1), .string ((rd_T23 l0 (ji6)).f2), .int .i64 ((rd_T23 l0 (ji6)).f3), .int .i64 ((rd_T23 l0 (ji6)).f4), .int .i64 ((rd_T23 l0 (ji6)).f5), .string ((rd_T23 l0 (ji6)).f6), .int .i64 ((rd_T23 l0 (ji6)).f7)] 23 (0, 0))) ∧ Aside0 (Below w.heap.size w wc))
    case first =>
     have H := HC9.out; clear HC9
     by_cases c16 : a1_3 = 3
     ·rw [if_pos c16] at H; have c16b0 := bT_ c16; have c16b1 := bF_ c16; clear c16; (first | rw [c16b0] | (simp only [i64_w, i32_w]; rw [c16b0]) | skip); have H' := Aside0.mk H; clear H
      go_wp2
      repeat (go_quiet (fail); try go_wp2)
      go_meet
      case rel => exact ⟨_, (2), pbb2_0, H', ⟨by first | omega | exact Nat.le_refl _⟩, ⟨by (with_reducible repeat (first | refine blk_drewN ?_ _ | refine blk_drew ?_ | refine blk_alloc ?_ _ | refine blk_far ?_ NB101_103.out _)); exact BK101.out⟩, ⟨by (with_reducible repeat (first | refine blk_drewN ?_ _ | refine blk_drew ?_ | refine blk_alloc ?_ _)); refine blk_put (cs := #[.int .i64 ((rd_T23 l0 (ji6)).f0), .int .i64 ((rd_T23 l0 (ji6)).f1), .string ((rd_T23 l0 (ji6)).f2), .int .i64 ((rd_T23 l0 (ji6)).f3), .int .i64 ((rd_T23 l0 (ji6)).f4), .int .i64 ((rd_T23 l0 (ji6)).f5), .string ((rd_T23 l0 (ji6)).f6), .int .i64 0]) ?_ 7 _ rfl; (with_reducible repeat (first | refine blk_drewN ?_ _ | refine blk_drew ?_ | refine blk_alloc ?_ _)); refine blk_put (cs := #[.int .i64 ((rd_T23 l0 (ji6)).f0), .int .i64 ((rd_T23 l0 (ji6)).f1), .string ((rd_T23 l0 (ji6)).f2), .int .i64 ((rd_T23 l0 (ji6)).f3), .int .i64 ((rd_T23 l0 (ji6)).f4), .int .i64 ((rd_T23 l0 (ji6)).f5), .string (⟨#[]⟩ : ByteArray), .int .i64 0]) ?_ 6 _ rfl; (with_reducible repeat (first | refine blk_drewN ?_ _ | refine blk_drew ?_ | refine blk_alloc ?_ _)); refine blk_put (cs := #[.int .i64 ((rd_T23 l0 (ji6)).f0), .int .i64 ((rd_T23 l0 (ji6)).f1), .string ((rd_T23 l0 (ji6)).f2), .int .i64 ((rd_T23 l0 (ji6)).f3), .int .i64 ((rd_T23 l0 (ji6)).f4), .int .i64 0, .string (⟨#[]⟩ : ByteArray), .int .i64 0]) ?_ 5 _ rfl; (with_reducible repeat (first | refine blk_drewN ?_ _ | refine blk_drew ?_ | refine blk_alloc ?_ _)); refine blk_put (cs := #[.int .i64 ((rd_T23 l0 (ji6)).f0), .int .i64 ((rd_T23 l0 (ji6)).f1), .string ((rd_T23 l0 (ji6)).f2), .int .i64 ((rd_T23 l0 (ji6)).f3), .int .i64 0, .int .i64 0, .string (⟨#[]⟩ : ByteArray), .int .i64 0]) ?_ 4 _ rfl; (with_reducible repeat (first | refine blk_drewN ?_ _ | refine blk_drew ?_ | refine blk_alloc ?_ _)); refine blk_put (cs := #[.int .i64 ((rd_T23 l0 (ji6)).f0), .int .i64 ((rd_T23 l0 (ji6)).f1), .string ((rd_T23 l0 (ji6)).f2), .int .i64 0, .int .i64 0, .int .i64 0, .string (⟨#[]⟩ : ByteArray), .int .i64 0]) ?_ 3 _ rfl; (with_reducible repeat (first | refine blk_drewN ?_ _ | refine blk_drew ?_ | refine blk_alloc ?_ _)); refine blk_put (cs := #[.int .i64 ((rd_T23 l0 (ji6)).f0), .int .i64 ((rd_T23 l0 (ji6)).f1), .string (⟨#[]⟩ : ByteArray), .int .i64 0, .int .i64 0, .int .i64 0, .string (⟨#[]⟩ : ByteArray), .int .i64 0]) ?_ 2 _ rfl; (with_reducible repeat (first | refine blk_drewN ?_ _ | refine blk_drew ?_ | refine blk_alloc ?_ _)); refine blk_put (cs := #[.int .i64 ((rd_T23 l0 (ji6)).f0), .int .i64 0, .string (⟨#[]⟩ : ByteArray), .int .i64 0, .int .i64 0, .int .i64 0, .string (⟨#[]⟩ : ByteArray), .int .i64 0]) ?_ 1 _ rfl; (with_reducible repeat (first | refine blk_drewN ?_ _ | refine blk_drew ?_ | refine blk_alloc ?_ _)); refine blk_put (cs := #[.int .i64 0, .int .i64 0, .string (⟨#[]⟩ : ByteArray), .int .i64 0, .int .i64 0, .int .i64 0, .string (⟨#[]⟩ : ByteArray), .int .i64 0]) ?_ 0 _ rfl; (with_reducible repeat (first | refine blk_drewN ?_ _ | refine blk_drew ?_ | refine blk_alloc ?_ _)); exact BK103.out⟩, ⟨pso2_3⟩⟩
     ·rw [if_neg c16] at H; have c16b0 := nF_ c16; have c16b1 := nT_ c16; (first | rw [c16b0] | (simp only [i64_w, i32_w]; rw [c16b0]) | skip); have H' := Aside0.mk H; clear H
      go_wp2
      repeat (go_quiet (fail); try go_wp2)
      go_meet
      case rel => exact ⟨_, (1), pbb2_0, H', ⟨by first | omega | exact Nat.le_refl _⟩, ⟨by (with_reducible repeat (first | refine blk_drewN ?_ _ | refine blk_drew ?_ | refine blk_alloc ?_ _ | refine blk_far ?_ NB101_103.out _)); exact BK101.out⟩, ⟨by (with_reducible repeat (first | refine blk_drewN ?_ _ | refine blk_drew ?_ | refine blk_alloc ?_ _)); refine blk_put (cs := #[.int .i64 ((rd_T23 l0 (ji6)).f0), .int .i64 ((rd_T23 l0 (ji6)).f1), .string ((rd_T23 l0 (ji6)).f2), .int .i64 ((rd_T23 l0 (ji6)).f3), .int .i64 ((rd_T23 l0 (ji6)).f4), .int .i64 ((rd_T23 l0 (ji6)).f5), .string ((rd_T23 l0 (ji6)).f6), .int .i64 0]) ?_ 7 _ rfl; (with_reducible repeat (first | refine blk_drewN ?_ _ | refine blk_drew ?_ | refine blk_alloc ?_ _)); refine blk_put (cs := #[.int .i64 ((rd_T23 l0 (ji6)).f0), .int .i64 ((rd_T23 l0 (ji6)).f1), .string ((rd_T23 l0 (ji6)).f2), .int .i64 ((rd_T23 l0 (ji6)).f3), .int .i64 ((rd_T23 l0 (ji6)).f4), .int .i64 ((rd_T23 l0 (ji6)).f5), .string (⟨#[]⟩ : ByteArray), .int .i64 0]) ?_ 6 _ rfl; (with_reducible repeat (first | refine blk_drewN ?_ _ | refine blk_drew ?_ | refine blk_alloc ?_ _)); refine blk_put (cs := #[.int .i64 ((rd_T23 l0 (ji6)).f0), .int .i64 ((rd_T23 l0 (ji6)).f1), .string ((rd_T23 l0 (ji6)).f2), .int .i64 ((rd_T23 l0 (ji6)).f3), .int .i64 ((rd_T23 l0 (ji6)).f4), .int .i64 0, .string (⟨#[]⟩ : ByteArray), .int .i64 0]) ?_ 5 _ rfl; (with_reducible repeat (first | refine blk_drewN ?_ _ | refine blk_drew ?_ | refine blk_alloc ?_ _)); refine blk_put (cs := #[.int .i64 ((rd_T23 l0 (ji6)).f0), .int .i64 ((rd_T23 l0 (ji6)).f1), .string ((rd_T23 l0 (ji6)).f2), .int .i64 ((rd_T23 l0 (ji6)).f3), .int .i64 0, .int .i64 0, .string (⟨#[]⟩ : ByteArray), .int .i64 0]) ?_ 4 _ rfl; (with_reducible repeat (first | refine blk_drewN ?_ _ | refine blk_drew ?_ | refine blk_alloc ?_ _)); refine blk_put (cs := #[.int .i64 ((rd_T23 l0 (ji6)).f0), .int .i64 ((rd_T23 l0 (ji6)).f1), .string ((rd_T23 l0 (ji6)).f2), .int .i64 0, .int .i64 0, .int .i64 0, .string (⟨#[]⟩ : ByteArray), .int .i64 0]) ?_ 3 _ rfl; (with_reducible repeat (first | refine blk_drewN ?_ _ | refine blk_drew ?_ | refine blk_alloc ?_ _)); refine blk_put (cs := #[.int .i64 ((rd_T23 l0 (ji6)).f0), .int .i64 ((rd_T23 l0 (ji6)).f1), .string (⟨#[]⟩ : ByteArray), .int .i64 0, .int .i64 0, .int .i64 0, .string (⟨#[]⟩ : ByteArray), .int .i64 0]) ?_ 2 _ rfl; (with_reducible repeat (first | refine blk_drewN ?_ _ | refine blk_drew ?_ | refine blk_alloc ?_ _)); refine blk_put (cs := #[.int .i64 ((rd_T23 l0 (ji6)).f0), .int .i64 0, .string (⟨#[]⟩ : ByteArray), .int .i64 0, .int .i64 0, .int .i64 0, .string (⟨#[]⟩ : ByteArray), .int .i64 0]) ?_ 1 _ rfl; (with_reducible repeat (first | refine blk_drewN ?_ _ | refine blk_drew ?_ | refine blk_alloc ?_ _)); refine blk_put (cs := #[.int .i64 0, .int .i64 0, .string (⟨#[]⟩ : ByteArray), .int .i64 0, .int .i64 0, .int .i64 0, .string (⟨#[]⟩ : ByteArray), .int .i64 0]) ?_ 0 _ rfl; (with_reducible repeat (first | refine blk_drewN ?_ _ | refine blk_drew ?_ | refine blk_alloc ?_ _)); exact BK103.out⟩, ⟨pso2_3⟩⟩
    case rest =>
     clear HC9; obtain ⟨kq, x6_8, rfl, HA, HJ8, BK101, BK103, HB⟩ := hcut
     cases kq with
     | zero => exact absurd HA.out (by simp [F38.j0])
     | succ kj8 =>
      have H := HA.out; clear HA; simp only [F38.j0] at H; have HC17 := Aside0.mk H; clear H
      go_upto_region 7 with (fail)
      repeat (go_quiet (fail); go_upto_region 7 with (fail))
      go_cut [33] (fun v33 wc => ∃ (kq : Nat) (x33_16 : Bool), v33 = .bool x33_16 ∧ Aside0 (F38.j1 kq l0 x33_16 a1_0 a1_1 a1_2 a1_3 a1_4 a1_5 a1_6 a1_7 ((rd_T23 l0 (ji6)).f0) ((rd_T23 l0 (ji6)).f1) ((rd_T23 l0 (ji6)).f2) ((rd_T23 l0 (ji6)).f3) ((rd_T23 l0 (ji6)).f4) ((rd_T23 l0 (ji6)).f5) ((rd_T23 l0 (ji6)).f6) ((rd_T23 l0 (ji6)).f7) = some r) ∧ Aside0 (kq ≤ kj8) ∧ Aside0 (wc.heap[gb101]? = some (.cells #[.int .i64 a1_0, .int .i64 a1_1, .string a1_2, .int .i64 a1_3, .int .i64 a1_4, .int .i64 a1_5, .string a1_6, .int .i64 a1_7] 23 (0, 0))) ∧ Aside0 (wc.heap[gb103]? = some (.cells #[.int .i64 ((rd_T23 l0 (ji6)).f0), .int .i64 ((rd_T23 l0 (ji6)).f1), .string ((rd_T23 l0 (ji6)).f2), .int .i64 ((rd_T23 l0 (ji6)).f3), .int .i64 ((rd_T23 l0 (ji6)).f4), .int .i64 ((rd_T23 l0 (ji6)).f5), .string ((rd_T23 l0 (ji6)).f6), .int .i64 ((rd_T23 l0 (ji6)).f7)] 23 (0, 0))) ∧ Aside0 (Below w.heap.size w wc))
      case first =>
       have H := HC17.out; clear HC17
       by_cases c18 : ((rd_T23 l0 (ji6)).f2).toList = a1_2.toList
       ·rw [if_pos c18] at H; have c18b0 := bT_ c18; have c18b1 := bF_ c18; clear c18; (first | rw [c18b0] | (simp only [i64_w, i32_w]; rw [c18b0]) | skip); have H' := Aside0.mk H; clear H; have hnb19 := NB103_101.out; have hnc19 := NB101_103.out; obtain ⟨hcz20_0, hcz20_1, hcz20_2, hcz20_3, hcz20_4, hcz20_5, hcz20_6, hcz20_7⟩ := cz8 BK103.out; obtain ⟨hfz20_0, hfz20_1, hfz20_2, hfz20_3, hfz20_4, hfz20_5, hfz20_6, hfz20_7⟩ := fz8 BK103.out; obtain ⟨hcz21_0, hcz21_1, hcz21_2, hcz21_3, hcz21_4, hcz21_5, hcz21_6, hcz21_7⟩ := cz8 BK101.out; obtain ⟨hfz21_0, hfz21_1, hfz21_2, hfz21_3, hfz21_4, hfz21_5, hfz21_6, hfz21_7⟩ := fz8 BK101.out
        go_wp2
        repeat (go_quiet (fail); try go_wp2)
        go_meet
        case rel => exact ⟨_, ((((rd_T23 l0 (ji6)).f3) != x6_8)), (by first | rfl | (simp; done) | (simp only [← hji6] <;> (first | rfl | simp)) | (simp [*]; done)), H', ⟨by have := HJ8.out; first | omega | exact Nat.le_refl _⟩, ⟨pbb2_10⟩, ⟨pso2_4⟩, ⟨pso2_3⟩⟩
       ·rw [if_neg c18] at H; have c18b0 := nF_ c18; have c18b1 := nT_ c18; (first | rw [c18b0] | (simp only [i64_w, i32_w]; rw [c18b0]) | skip); have H' := Aside0.mk H; clear H; have hnb22 := NB103_101.out; have hnc22 := NB101_103.out; obtain ⟨hcz23_0, hcz23_1, hcz23_2, hcz23_3, hcz23_4, hcz23_5, hcz23_6, hcz23_7⟩ := cz8 BK103.out; obtain ⟨hfz23_0, hfz23_1, hfz23_2, hfz23_3, hfz23_4, hfz23_5, hfz23_6, hfz23_7⟩ := fz8 BK103.out; obtain ⟨hcz24_0, hcz24_1, hcz24_2, hcz24_3, hcz24_4, hcz24_5, hcz24_6, hcz24_7⟩ := cz8 BK101.out; obtain ⟨hfz24_0, hfz24_1, hfz24_2, hfz24_3, hfz24_4, hfz24_5, hfz24_6, hfz24_7⟩ := fz8 BK101.out
        go_wp2
        repeat (go_quiet (fail); try go_wp2)
        go_meet
        case rel => exact ⟨_, (true), pbb2_0, H', ⟨by have := HJ8.out; first | omega | exact Nat.le_refl _⟩, ⟨pbb2_10⟩, ⟨pso2_4⟩, ⟨pso2_3⟩⟩
      case rest =>
       clear HC17; obtain ⟨kq, x33_16, rfl, HA, HJ16, BK101, BK103, HB⟩ := hcut
       cases kq with
       | zero => exact absurd HA.out (by simp [F38.j1])
       | succ kj16 =>
        have H := HA.out; clear HA; simp only [F38.j1] at H
        by_cases c25 : x33_16 = true
        ·subst c25; rw [if_pos rfl] at H; obtain rfl := Option.some.inj H
         go_wp2
         repeat (go_quiet (fail); try go_wp2)
         go_ret
         exact ⟨pso2_5, pso2_3⟩
        ·replace c25 := Bool.eq_false_iff.mpr c25; subst c25; rw [if_neg (show ¬ (false = true) by decide)] at H
         by_cases c26 : a1_1 < ((rd_T23 l0 (ji6)).f1)
         ·rw [if_pos c26] at H; have c26b0 := decide_eq_true c26; clear c26; obtain rfl := Option.some.inj H; have hnb27 := NB101_103.out; have hnc27 := NB103_101.out; obtain ⟨hcz28_0, hcz28_1, hcz28_2, hcz28_3, hcz28_4, hcz28_5, hcz28_6, hcz28_7⟩ := cz8 BK101.out; obtain ⟨hfz28_0, hfz28_1, hfz28_2, hfz28_3, hfz28_4, hfz28_5, hfz28_6, hfz28_7⟩ := fz8 BK101.out; obtain ⟨hcz29_0, hcz29_1, hcz29_2, hcz29_3, hcz29_4, hcz29_5, hcz29_6, hcz29_7⟩ := cz8 BK103.out; obtain ⟨hfz29_0, hfz29_1, hfz29_2, hfz29_3, hfz29_4, hfz29_5, hfz29_6, hfz29_7⟩ := fz8 BK103.out
          go_wp2
          repeat (go_quiet (fail); try go_wp2)
          go_ret
          exact ⟨pso2_5, pso2_3⟩
         ·rw [if_neg c26] at H; have c26b0 := decide_eq_false c26; clear c26; have H' := Aside0.mk H; clear H; have hnb30 := NB101_103.out; have hnc30 := NB103_101.out; obtain ⟨hcz31_0, hcz31_1, hcz31_2, hcz31_3, hcz31_4, hcz31_5, hcz31_6, hcz31_7⟩ := cz8 BK101.out; obtain ⟨hfz31_0, hfz31_1, hfz31_2, hfz31_3, hfz31_4, hfz31_5, hfz31_6, hfz31_7⟩ := fz8 BK101.out; obtain ⟨hcz32_0, hcz32_1, hcz32_2, hcz32_3, hcz32_4, hcz32_5, hcz32_6, hcz32_7⟩ := cz8 BK103.out; obtain ⟨hfz32_0, hfz32_1, hfz32_2, hfz32_3, hfz32_4, hfz32_5, hfz32_6, hfz32_7⟩ := fz8 BK103.out
          go_wp2
          repeat (go_quiet (fail); try go_wp2)
          go_loopg [7, 8] kj16 (fun kq v7 v8 w' => ∃ (x7_3 : Int) (x8_3 : Int), v7 = .int .i64 x7_3 ∧ v8 = .int .i64 x8_3 ∧ Aside0 (F38.l0 kq l0 x7_3 x8_3 a1_0 a1_1 a1_2 a1_3 a1_4 a1_5 a1_6 a1_7 ((rd_T23 l0 (ji6)).f0) ((rd_T23 l0 (ji6)).f1) ((rd_T23 l0 (ji6)).f2) ((rd_T23 l0 (ji6)).f3) ((rd_T23 l0 (ji6)).f4) ((rd_T23 l0 (ji6)).f5) ((rd_T23 l0 (ji6)).f6) ((rd_T23 l0 (ji6)).f7) = some r) ∧ Aside0 (kq ≤ kj16) ∧ Aside0 (w'.heap[gb101]? = some (.cells #[.int .i64 a1_0, .int .i64 a1_1, .string a1_2, .int .i64 a1_3, .int .i64 a1_4, .int .i64 a1_5, .string a1_6, .int .i64 a1_7] 23 (0, 0))) ∧ Aside0 (w'.heap[gb103]? = some (.cells #[.int .i64 ((rd_T23 l0 (ji6)).f0), .int .i64 ((rd_T23 l0 (ji6)).f1), .string ((rd_T23 l0 (ji6)).f2), .int .i64 ((rd_T23 l0 (ji6)).f3), .int .i64 ((rd_T23 l0 (ji6)).f4), .int .i64 ((rd_T23 l0 (ji6)).f5), .string ((rd_T23 l0 (ji6)).f6), .int .i64 ((rd_T23 l0 (ji6)).f7)] 23 (0, 0))) ∧ Aside0 (Below w.heap.size w w'))
          case atStart => exact ⟨(a1_4), (0), pbb2_0, pbb2_0, H', ⟨Nat.le_refl _⟩, ⟨pbb2_10⟩, ⟨pso2_4⟩, ⟨pso2_3⟩⟩
          case round =>
           clear H'; obtain ⟨x7_3, x8_3, rfl, rfl, HA, HK3, BK101, BK103, HB⟩ := hrel
           cases gk with
           | zero => exact absurd HA.out (by simp [F38.l0])
           | succ k3 =>
            have H := HA.out; clear HA; simp only [F38.l0] at H
            by_cases c33 : x8_3 < (l0.length : Int)
            ·rw [if_pos c33] at H; have c33b0 := decide_eq_true c33; clear c33
             by_cases c34 : 0 ≤ x8_3
             ·rw [if_pos c34] at H; have c34b0 := decide_eq_true c34; clear c34
              by_cases c35 : ((rd_T23 l0 x8_3).f3) = a1_3
              ·rw [if_pos c35] at H; have c35b0 := bT_ c35; have c35b1 := bF_ c35; clear c35
               by_cases c36 : ((rd_T23 l0 x8_3).f7) = a1_7
               ·rw [if_pos c36] at H; have c36b0 := bT_ c36; have c36b1 := bF_ c36; clear c36; have H' := Aside0.mk H; clear H; have p104 : 0 ≤ (x8_3 : Int) := of_decide_eq_true pbb2_4; have q104 : x8_3 < (l0.length : Int) := of_decide_eq_true pbb2_4; obtain ⟨ad104, e104, hx104_0, hx104_1, hx104_2, hx104_3, hx104_4, hx104_5, hx104_6, hx104_7⟩ := up8 HB.out (at_T23 HR0.out x8_3 p104 q104); obtain rfl : ad102 = ad104 := (by injection e104); replace p104 := eq_true p104; replace q104 := eq_true q104; have hnb37 := NB101_103.out; have hnc37 := NB103_101.out; obtain ⟨hcz38_0, hcz38_1, hcz38_2, hcz38_3, hcz38_4, hcz38_5, hcz38_6, hcz38_7⟩ := cz8 BK101.out; obtain ⟨hfz38_0, hfz38_1, hfz38_2, hfz38_3, hfz38_4, hfz38_5, hfz38_6, hfz38_7⟩ := fz8 BK101.out; have p105 : 0 ≤ (x8_3 : Int) := of_decide_eq_true pbb2_4; have q105 : x8_3 < (l0.length : Int) := of_decide_eq_true pbb2_4; obtain ⟨ad105, e105, hx105_0, hx105_1, hx105_2, hx105_3, hx105_4, hx105_5, hx105_6, hx105_7⟩ := up8 HB.out (at_T23 HR0.out x8_3 p105 q105); obtain rfl : ad102 = ad105 := (by injection e105); replace p105 := eq_true p105; replace q105 := eq_true q105; have p106 : 0 ≤ (x8_3 : Int) := of_decide_eq_true pbb2_4; have q106 : x8_3 < (l0.length : Int) := of_decide_eq_true pbb2_4; obtain ⟨ad106, e106, hx106_0, hx106_1, hx106_2, hx106_3, hx106_4, hx106_5, hx106_6, hx106_7⟩ := up8 HB.out (at_T23 HR0.out x8_3 p106 q106); obtain rfl : ad102 = ad106 := (by injection e106); replace p106 := eq_true p106; replace q106 := eq_true q106
                go_wp2
                repeat (go_quiet (fail); try go_wp2)
                go_roundg k3
                case measure => have := HJ8.out; have := HJ16.out; have := HK3.out; omega
                case rel => exact ⟨(wrap64 (x7_3 + ((rd_T23 l0 x8_3).f4))), (wrap64 (x8_3 + 1)), pbb2_0, pbb2_0, H', ⟨by have := HJ8.out; have := HJ16.out; have := HK3.out; omega⟩, ⟨pbb2_10⟩, ⟨pso2_4⟩, ⟨pso2_3⟩⟩
               ·rw [if_neg c36] at H; have c36b0 := nF_ c36; have c36b1 := nT_ c36; have H' := Aside0.mk H; clear H; have p104 : 0 ≤ (x8_3 : Int) := of_decide_eq_true pbb2_4; have q104 : x8_3 < (l0.length : Int) := of_decide_eq_true pbb2_4; obtain ⟨ad104, e104, hx104_0, hx104_1, hx104_2, hx104_3, hx104_4, hx104_5, hx104_6, hx104_7⟩ := up8 HB.out (at_T23 HR0.out x8_3 p104 q104); obtain rfl : ad102 = ad104 := (by injection e104); replace p104 := eq_true p104; replace q104 := eq_true q104; have hnb39 := NB101_103.out; have hnc39 := NB103_101.out; obtain ⟨hcz40_0, hcz40_1, hcz40_2, hcz40_3, hcz40_4, hcz40_5, hcz40_6, hcz40_7⟩ := cz8 BK101.out; obtain ⟨hfz40_0, hfz40_1, hfz40_2, hfz40_3, hfz40_4, hfz40_5, hfz40_6, hfz40_7⟩ := fz8 BK101.out; have p105 : 0 ≤ (x8_3 : Int) := of_decide_eq_true pbb2_4; have q105 : x8_3 < (l0.length : Int) := of_decide_eq_true pbb2_4; obtain ⟨ad105, e105, hx105_0, hx105_1, hx105_2, hx105_3, hx105_4, hx105_5, hx105_6, hx105_7⟩ := up8 HB.out (at_T23 HR0.out x8_3 p105 q105); obtain rfl : ad102 = ad105 := (by injection e105); replace p105 := eq_true p105; replace q105 := eq_true q105
                go_wp2
                repeat (go_quiet (fail); try go_wp2)
                go_roundg k3
                case measure => have := HJ8.out; have := HJ16.out; have := HK3.out; omega
                case rel => exact ⟨(x7_3), (wrap64 (x8_3 + 1)), pbb2_0, pbb2_0, H', ⟨by have := HJ8.out; have := HJ16.out; have := HK3.out; omega⟩, ⟨pbb2_10⟩, ⟨pso2_4⟩, ⟨pso2_3⟩⟩
              ·rw [if_neg c35] at H; have c35b0 := nF_ c35; have c35b1 := nT_ c35; have H' := Aside0.mk H; clear H; have p104 : 0 ≤ (x8_3 : Int) := of_decide_eq_true pbb2_4; have q104 : x8_3 < (l0.length : Int) := of_decide_eq_true pbb2_4; obtain ⟨ad104, e104, hx104_0, hx104_1, hx104_2, hx104_3, hx104_4, hx104_5, hx104_6, hx104_7⟩ := up8 HB.out (at_T23 HR0.out x8_3 p104 q104); obtain rfl : ad102 = ad104 := (by injection e104); replace p104 := eq_true p104; replace q104 := eq_true q104; have hnb41 := NB101_103.out; have hnc41 := NB103_101.out; obtain ⟨hcz42_0, hcz42_1, hcz42_2, hcz42_3, hcz42_4, hcz42_5, hcz42_6, hcz42_7⟩ := cz8 BK101.out; obtain ⟨hfz42_0, hfz42_1, hfz42_2, hfz42_3, hfz42_4, hfz42_5, hfz42_6, hfz42_7⟩ := fz8 BK101.out
               go_wp2
               repeat (go_quiet (fail); try go_wp2)
               go_roundg k3
               case measure => have := HJ8.out; have := HJ16.out; have := HK3.out; omega
               case rel => exact ⟨(x7_3), (wrap64 (x8_3 + 1)), pbb2_0, pbb2_0, H', ⟨by have := HJ8.out; have := HJ16.out; have := HK3.out; omega⟩, ⟨pbb2_10⟩, ⟨pso2_4⟩, ⟨pso2_3⟩⟩
             ·rw [if_neg c34] at H; exact absurd H (by simp)
            ·rw [if_neg c33] at H; have c33b0 := decide_eq_false c33; clear c33
             by_cases c43 : a1_3 = 5
             ·rw [if_pos c43] at H; have c43b0 := bT_ c43; have c43b1 := bF_ c43; clear c43; obtain rfl := Option.some.inj H; have hnb44 := NB101_103.out; have hnc44 := NB103_101.out; obtain ⟨hcz45_0, hcz45_1, hcz45_2, hcz45_3, hcz45_4, hcz45_5, hcz45_6, hcz45_7⟩ := cz8 BK101.out; obtain ⟨hfz45_0, hfz45_1, hfz45_2, hfz45_3, hfz45_4, hfz45_5, hfz45_6, hfz45_7⟩ := fz8 BK101.out
              go_wp2
              repeat (go_quiet (fail); try go_wp2)
              go_ret
              exact ⟨pso2_5, pso2_3⟩
             ·rw [if_neg c43] at H; have c43b0 := nF_ c43; have c43b1 := nT_ c43
              by_cases c46 : x7_3 > ((rd_T23 l0 (ji6)).f4)
              ·rw [if_pos c46] at H; have c46b0 : decide (((rd_T23 l0 (ji6)).f4) < x7_3) = true := decide_eq_true c46; clear c46; obtain rfl := Option.some.inj H; have hnb47 := NB101_103.out; have hnc47 := NB103_101.out; obtain ⟨hcz48_0, hcz48_1, hcz48_2, hcz48_3, hcz48_4, hcz48_5, hcz48_6, hcz48_7⟩ := cz8 BK101.out; obtain ⟨hfz48_0, hfz48_1, hfz48_2, hfz48_3, hfz48_4, hfz48_5, hfz48_6, hfz48_7⟩ := fz8 BK101.out; obtain ⟨hcz49_0, hcz49_1, hcz49_2, hcz49_3, hcz49_4, hcz49_5, hcz49_6, hcz49_7⟩ := cz8 BK103.out; obtain ⟨hfz49_0, hfz49_1, hfz49_2, hfz49_3, hfz49_4, hfz49_5, hfz49_6, hfz49_7⟩ := fz8 BK103.out
               go_wp2
               repeat (go_quiet (fail); try go_wp2)
               go_ret
               exact ⟨pso2_5, pso2_3⟩
              ·rw [if_neg c46] at H; have c46b0 : decide (((rd_T23 l0 (ji6)).f4) < x7_3) = false := decide_eq_false c46; clear c46; obtain rfl := Option.some.inj H; have hnb50 := NB101_103.out; have hnc50 := NB103_101.out; obtain ⟨hcz51_0, hcz51_1, hcz51_2, hcz51_3, hcz51_4, hcz51_5, hcz51_6, hcz51_7⟩ := cz8 BK101.out; obtain ⟨hfz51_0, hfz51_1, hfz51_2, hfz51_3, hfz51_4, hfz51_5, hfz51_6, hfz51_7⟩ := fz8 BK101.out; obtain ⟨hcz52_0, hcz52_1, hcz52_2, hcz52_3, hcz52_4, hcz52_5, hcz52_6, hcz52_7⟩ := cz8 BK103.out; obtain ⟨hfz52_0, hfz52_1, hfz52_2, hfz52_3, hfz52_4, hfz52_5, hfz52_6, hfz52_7⟩ := fz8 BK103.out
               go_wp2
               repeat (go_quiet (fail); try go_wp2)
               go_ret
               exact ⟨pso2_5, pso2_3⟩
   ·rw [if_neg c8] at H; exact absurd H (by simp)
  ·rw [if_neg c7] at H; exact absurd H (by simp)
def F15.l0 : Nat → List (S23) → Int → Option (Int × Int)
  | 0, _, _ => none
  | k + 1, x0, x4 => if x4 < (x0.length : Int) then (if 0 ≤ x4 then (if ((rd_T23 x0 x4).f0) = (wrap64 (x4 + 1)) then ((F13.f k ((rd_T23 x0 x4).f0) ((rd_T23 x0 x4).f1) ((rd_T23 x0 x4).f2) ((rd_T23 x0 x4).f3) ((rd_T23 x0 x4).f4) ((rd_T23 x0 x4).f5) ((rd_T23 x0 x4).f6) ((rd_T23 x0 x4).f7)).bind fun t103 => (if t103 = 0 then ((F36.f ((rd_T23 x0 x4).f3)).bind fun t105 => (if t105 = true then (if x4 ≤ (x0.length : Int) then ((F38.f k (x0.take (x4 : Int).toNat) ((rd_T23 x0 x4).f0) ((rd_T23 x0 x4).f1) ((rd_T23 x0 x4).f2) ((rd_T23 x0 x4).f3) ((rd_T23 x0 x4).f4) ((rd_T23 x0 x4).f5) ((rd_T23 x0 x4).f6) ((rd_T23 x0 x4).f7)).bind fun t111 => (if t111 = 0 then (F15.l0 k x0 (wrap64 (x4 + 1))) else (some (x4, t111)))) else (none)) else (F15.l0 k x0 (wrap64 (x4 + 1))))) else (some (x4, t103)))) else (some (x4, 17))) else (none)) else (some ((-1), 0))
def F15.f (k : Nat) (l0 : List (S23)) : Option (Int × Int) := if (l0.length : Int) > 2000 then (some (0, 9)) else (F15.l0 k l0 0)
def F15.T12 : Bool × List (List Nat × List Nat) := (true, [([], []), ([], []), ([0, 1], [0, 1]), ([], []), ([], []), ([3, 4], [3, 4]), ([5], [5]), ([2, 6], [2, 6]), ([7, 7, 0, 1, 2, 3, 4, 5, 6, 7], [7])])
def F15.B12 : List Nat := [0, 0, 3, 0, 0, 24, 56, 127, 255]
theorem F15.tab12 : rtab .any (opsOf Tryd.f15 12) = F15.T12 := by kernel_rfl
theorem F15.bits12 : waitsOk F15.T12.2 F15.B12 = true := by kernel_rfl
set_option maxHeartbeats 8000000 in
set_option maxRecDepth 100000 in
theorem F15.calls (k : Nat) (A0 : Option Addr) (c0 : Nat) (l0 : List (S23)) (r1 : Int) (r2 : Int) (w : World) (hr0 : Kd.C k23 w A0 l0.length l0) (hc0 : l0.length ≤ c0) (h : F15.f k l0 = some (r1, r2)) :
    Calls Tryd.prog 15 #[.slice A0 l0.length c0] w fun e w' => e = .returned (.tuple #[.int .i64 r1, .int .i64 r2]) ∧ Below w.heap.size w w' := by
 have hu3 := Tryd.underlying3; have hu23 := Tryd.underlying23; have HR0 := Aside0.mk hr0; have HC0 := Aside0.mk hc0; clear hr0 hc0; have HB := Aside0.mk (Below.refl w.heap.size w)
 unfold F15.f at h
 have H := h; clear h
 by_cases c2 : (l0.length : Int) > 2000
 ·rw [if_pos c2] at H; have c2b0 : decide (2000 < (l0.length : Int)) = true := decide_eq_true c2; have c2b1 : decide (2000 < l0.length) = true := decide_eq_true (by omega); clear c2; simp only [Option.some.injEq, Prod.mk.injEq] at H; obtain ⟨rfl, rfl⟩ := H; go_enter Tryd.func15, Tryd.ntmps15
  go_wp2
  go_ret2
  exact ⟨pbb2_5, pbb2_3⟩
 ·rw [if_neg c2] at H; have c2b0 : decide (2000 < (l0.length : Int)) = false := decide_eq_false c2; have c2b1 : decide (2000 < l0.length) = false := decide_eq_false (by omega); clear c2; have H' := Aside0.mk H; clear H; go_enter Tryd.func15, Tryd.ntmps15
  go_wp2
  go_loopg [4] k (fun kq v4 w' => ∃ (x4_1 : Int), v4 = .int .i64 x4_1 ∧ Aside0 (F15.l0 kq l0 x4_1 = some (r1, r2)) ∧ Aside0 (kq ≤ k) ∧ Aside0 (Below w.heap.size w w'))
  case atStart => exact ⟨(0), pbb2_0, H', ⟨Nat.le_refl _⟩, ⟨pbb2_3⟩⟩
  case round =>
   clear H'; obtain ⟨x4_1, rfl, HA, HK1, HB⟩ := hrel
   cases gk with
   | zero => exact absurd HA.out (by simp [F15.l0])
   | succ k1 =>
    have H := HA.out; clear HA; simp only [F15.l0] at H
    by_cases c3 : x4_1 < (l0.length : Int)
    ·rw [if_pos c3] at H; have c3b0 := decide_eq_true c3; clear c3
     by_cases c4 : 0 ≤ x4_1
     ·rw [if_pos c4] at H; have c4b0 := decide_eq_true c4; clear c4
      by_cases c5 : ((rd_T23 l0 x4_1).f0) = (wrap64 (x4_1 + 1))
      ·rw [if_pos c5] at H; have c5b0 := bT_ c5; have c5b1 := bF_ c5; clear c5; obtain ⟨t103, A60, H⟩ := bnd H; have A6 := Aside0.mk A60; clear A60
       by_cases c7 : t103 = 0
       ·rw [if_pos c7] at H; have c7b0 := bT_ c7; have c7b1 := bF_ c7; clear c7; obtain ⟨t105, A80, H⟩ := bnd H; have A8 := Aside0.mk A80; clear A80
        by_cases c9 : t105 = true
        ·subst c9; rw [if_pos rfl] at H; have c10b0 := eq_true (of_decide_eq_true pbb2_4 : 0 ≤ x4_1)
         by_cases c11 : x4_1 ≤ (l0.length : Int)
         ·rw [if_pos c11] at H; have c11b0 := eq_true c11; have c11b1 := decide_eq_true c11; clear c11; obtain ⟨y106, hy106⟩ : ∃ y_ : List (S23), y_ = (l0.take (x4_1 : Int).toNat) := ⟨_, rfl⟩; replace H : ((F38.f k1 y106 ((rd_T23 l0 x4_1).f0) ((rd_T23 l0 x4_1).f1) ((rd_T23 l0 x4_1).f2) ((rd_T23 l0 x4_1).f3) ((rd_T23 l0 x4_1).f4) ((rd_T23 l0 x4_1).f5) ((rd_T23 l0 x4_1).f6) ((rd_T23 l0 x4_1).f7)).bind fun t111 => (if t111 = 0 then (F15.l0 k1 l0 (wrap64 (x4_1 + 1))) else (some (x4_1, t111)))) = some (r1, r2) := by first | (rw [hy106]; with_reducible exact H) | (have H2_ := (Option.bind_some _ _).symm.trans H; rw [hy106]; with_reducible exact H2_) | (have H2_ := (Option.bind_some _ _).symm.trans H; with_reducible exact H2_) | with_reducible exact H | (rw [hy106]; exact H) | exact H
          have Ny106 := Aside0.mk hy106; clear hy106; obtain ⟨t111, A120, H⟩ := bnd H; have A12 := Aside0.mk A120; clear A120
          by_cases c13 : t111 = 0
          ·rw [if_pos c13] at H; have c13b0 := bT_ c13; have c13b1 := bF_ c13; clear c13; have H' := Aside0.mk H; clear H; have p101 : 0 ≤ (x4_1 : Int) := of_decide_eq_true pbb2_4; have q101 : x4_1 < (l0.length : Int) := of_decide_eq_true pbb2_4; obtain ⟨ad101, e101, hx101_0, hx101_1, hx101_2, hx101_3, hx101_4, hx101_5, hx101_6, hx101_7⟩ := up8 HB.out (at_T23 HR0.out x4_1 p101 q101)
           cases e101
           replace p101 := eq_true p101; replace q101 := eq_true q101; have p102 : 0 ≤ (x4_1 : Int) := of_decide_eq_true pbb2_4; have q102 : x4_1 < (l0.length : Int) := of_decide_eq_true pbb2_4; obtain ⟨ad102, e102, hx102_0, hx102_1, hx102_2, hx102_3, hx102_4, hx102_5, hx102_6, hx102_7⟩ := up8 HB.out (at_T23 HR0.out x4_1 p102 q102); obtain rfl : ad101 = ad102 := (by injection e102); replace p102 := eq_true p102; replace q102 := eq_true q102; (try go_wp2_with (first | ((with_reducible refine gate_callee (f := 13) rfl ?_); refine goesL_ (some 29) rfl rfl Tryd.func13 (by kernel_rfl) rfl #[.agg #[.int .i64 ((rd_T23 l0 x4_1).f0), .int .i64 ((rd_T23 l0 x4_1).f1), .string ((rd_T23 l0 x4_1).f2), .int .i64 ((rd_T23 l0 x4_1).f3), .int .i64 ((rd_T23 l0 x4_1).f4), .int .i64 ((rd_T23 l0 x4_1).f5), .string ((rd_T23 l0 x4_1).f6), .int .i64 ((rd_T23 l0 x4_1).f7)]] rfl pbb2_2 ?_; (with_reducible refine (F13.calls k1 ((rd_T23 l0 x4_1).f0) ((rd_T23 l0 x4_1).f1) ((rd_T23 l0 x4_1).f2) ((rd_T23 l0 x4_1).f3) ((rd_T23 l0 x4_1).f4) ((rd_T23 l0 x4_1).f5) ((rd_T23 l0 x4_1).f6) ((rd_T23 l0 x4_1).f7) t103 _ A6.out).mono ?_); rintro e w14 ⟨rfl, hb⟩; refine ⟨_, rfl, ?_⟩; replace HB := Aside0.mk (below_step pbb2_3 hb); (try clear hb); (try clear hb2); (try clear hk); (try clear hi); have p104 : 0 ≤ (x4_1 : Int) := of_decide_eq_true pbb2_4; have q104 : x4_1 < (l0.length : Int) := of_decide_eq_true pbb2_4; obtain ⟨ad104, e104, hx104_0, hx104_1, hx104_2, hx104_3, hx104_4, hx104_5, hx104_6, hx104_7⟩ := up8 HB.out (at_T23 HR0.out x4_1 p104 q104); obtain rfl : ad101 = ad104 := (by injection e104); replace p104 := eq_true p104; replace q104 := eq_true q104) | ((with_reducible refine gate_callee (f := 36) rfl ?_); refine goesL_ (some 39) rfl rfl Tryd.func36 (by kernel_rfl) rfl #[.int .i64 ((rd_T23 l0 x4_1).f3)] rfl pbb2_2 ?_; (with_reducible refine (F36.calls ((rd_T23 l0 x4_1).f3) true _ A8.out).mono ?_); rintro e w' ⟨rfl, ⟨nd, rfl⟩⟩; refine ⟨_, rfl, ?_⟩))); (try (rw [drewN_self w14]; generalize hq_ : World.drewN w14 _ = w14; have n0_ : Aside0 (Below w.heap.size w w14) := ⟨pbb4_0⟩; clear HB hq_; have HB := n0_; clear n0_)); replace HB := Aside0.mk (below_drew1 HB.out); have q16 : (x4_1 : Int) ≤ ((l0.length : Int) : Int) := of_decide_eq_true pbb2_4; obtain ⟨i016, hi016, _, hsz16, _⟩ := info_parts info23; have hroom16 : l0.length ≤ c0 := HC0.out; have hC16 : Kd.C k23 _ (some ad101) l0.length l0 := HR0.out; have hcut16 := cut_to (P := Tryd.prog) 25 23 .i64 Tryd.underlying25 hi016 (some ad101) l0.length c0 x4_1 (of_decide_eq_true pbb2_4) q16 hroom16; have hr16 := Kd.C_take (m := (x4_1 : Int).toNat) hC16 (by omega); have hy16 : y106.length = (x4_1 : Int).toNat := (by rw [Ny106.out, List.length_take]; omega); rw [← Ny106.out] at hr16; rw [← hy16] at hcut16; have HR109 := Aside0.mk hr16; have HC109 := Aside0.mk (show y106.length ≤ c0 from by omega); clear hr16 hC16 hroom16 hi016 hsz16; have KY16 := Aside0.mk hy16; clear hy16; replace q16 := eq_true q16; have p110 : 0 ≤ (x4_1 : Int) := of_decide_eq_true pbb2_4; have q110 : x4_1 < (l0.length : Int) := of_decide_eq_true pbb2_4; obtain ⟨ad110, e110, hx110_0, hx110_1, hx110_2, hx110_3, hx110_4, hx110_5, hx110_6, hx110_7⟩ := at_T23 HR0.out x4_1 p110 q110; have hw110_7 := hx110_7; have hw110_6 := hx110_6; have hw110_5 := hx110_5; have hw110_4 := hx110_4; have hw110_3 := hx110_3; have hw110_2 := hx110_2; have hw110_1 := hx110_1; have hw110_0 := hx110_0; obtain rfl : ad101 = ad110 := (by injection e110); replace hx110_0 := (HB.out.cell (World.block_lt_of_cell? w _ hx110_0)).trans hx110_0; replace hx110_1 := (HB.out.cell (World.block_lt_of_cell? w _ hx110_1)).trans hx110_1; replace hx110_2 := (HB.out.cell (World.block_lt_of_cell? w _ hx110_2)).trans hx110_2; replace hx110_3 := (HB.out.cell (World.block_lt_of_cell? w _ hx110_3)).trans hx110_3; replace hx110_4 := (HB.out.cell (World.block_lt_of_cell? w _ hx110_4)).trans hx110_4; replace hx110_5 := (HB.out.cell (World.block_lt_of_cell? w _ hx110_5)).trans hx110_5; replace hx110_6 := (HB.out.cell (World.block_lt_of_cell? w _ hx110_6)).trans hx110_6; replace hx110_7 := (HB.out.cell (World.block_lt_of_cell? w _ hx110_7)).trans hx110_7; replace p110 := eq_true p110; replace q110 := eq_true q110; refine start_ (n := 9) (S := fun w' => w'.cell? (ad101.add ((x4_1).toNat * 8)) = some (.int .i64 ((rd_T23 l0 x4_1).f0)) ∧ w'.cell? ⟨(ad101.add ((x4_1).toNat * 8)).block, (ad101.add ((x4_1).toNat * 8)).off + 1, none⟩ = some (.int .i64 ((rd_T23 l0 x4_1).f1)) ∧ w'.cell? ⟨(ad101.add ((x4_1).toNat * 8)).block, (ad101.add ((x4_1).toNat * 8)).off + 2, none⟩ = some (.string ((rd_T23 l0 x4_1).f2)) ∧ w'.cell? ⟨(ad101.add ((x4_1).toNat * 8)).block, (ad101.add ((x4_1).toNat * 8)).off + 3, none⟩ = some (.int .i64 ((rd_T23 l0 x4_1).f3)) ∧ w'.cell? ⟨(ad101.add ((x4_1).toNat * 8)).block, (ad101.add ((x4_1).toNat * 8)).off + 4, none⟩ = some (.int .i64 ((rd_T23 l0 x4_1).f4)) ∧ w'.cell? ⟨(ad101.add ((x4_1).toNat * 8)).block, (ad101.add ((x4_1).toNat * 8)).off + 5, none⟩ = some (.int .i64 ((rd_T23 l0 x4_1).f5)) ∧ w'.cell? ⟨(ad101.add ((x4_1).toNat * 8)).block, (ad101.add ((x4_1).toNat * 8)).off + 6, none⟩ = some (.string ((rd_T23 l0 x4_1).f6)) ∧ w'.cell? ⟨(ad101.add ((x4_1).toNat * 8)).block, (ad101.add ((x4_1).toNat * 8)).off + 7, none⟩ = some (.int .i64 ((rd_T23 l0 x4_1).f7))) (ds := []) (bq 9 0) (by kernel_rfl) rfl rfl ⟨((HB.out.cell (World.block_lt_of_cell? w _ hw110_0)).trans hw110_0), ((HB.out.cell (World.block_lt_of_cell? w _ hw110_1)).trans hw110_1), ((HB.out.cell (World.block_lt_of_cell? w _ hw110_2)).trans hw110_2), ((HB.out.cell (World.block_lt_of_cell? w _ hw110_3)).trans hw110_3), ((HB.out.cell (World.block_lt_of_cell? w _ hw110_4)).trans hw110_4), ((HB.out.cell (World.block_lt_of_cell? w _ hw110_5)).trans hw110_5), ((HB.out.cell (World.block_lt_of_cell? w _ hw110_6)).trans hw110_6), ((HB.out.cell (World.block_lt_of_cell? w _ hw110_7)).trans hw110_7)⟩ (fun hHeld => ?_); refine with_tabW F15.tab12 F15.bits12 (fun HT_ HW_ => ?_); generalize w14.drew = w15 at HB HR109 hx110_0 hx110_1 hx110_2 hx110_3 hx110_4 hx110_5 hx110_6 hx110_7 hHeld ⊢; refine pv_ 0 40 (bq 9 1) HT_ ?_; refine pv_ 1 41 (bq 9 3) HT_ ?_; refine pv_ 2 42 (bq 9 7) HT_ ?_; refine pv_ 3 43 (bq 9 15) HT_ ?_; refine pv_ 4 44 (bq 9 31) HT_ ?_; refine pv_ 5 45 (bq 9 63) HT_ ?_; refine take_ (i := 6) (N := some 46) (v := ?_) (a' := ?_) (bq 9 127) rfl rfl (take_ofW HT_.out HW_.out (by kernel_rfl)) (fun _ _ _ h => h) (Or.inl ⟨by rfl, ?_⟩) hHeld ?_ ?_; rotate_left
           ·rintro w' ⟨s0, s1, s2, s3, s4, s5, s6, s7⟩; go_simp; (with_reducible rfl)
           rotate_left
           ·exact cbb2_0
           refine one_ (i := 7) (N := some 47) (bq 9 255) rfl rfl (one_of HT_.out (by kernel_rfl)) (by decide) (fun K hK => ?_); refine goes_ Tryd.func38 (by kernel_rfl) rfl #[.slice (some ad101) y106.length c0, .agg #[.int .i64 ((rd_T23 l0 x4_1).f0), .int .i64 ((rd_T23 l0 x4_1).f1), .string ((rd_T23 l0 x4_1).f2), .int .i64 ((rd_T23 l0 x4_1).f3), .int .i64 ((rd_T23 l0 x4_1).f4), .int .i64 ((rd_T23 l0 x4_1).f5), .string ((rd_T23 l0 x4_1).f6), .int .i64 ((rd_T23 l0 x4_1).f7)]] (by rfl) rfl rfl pbb2_2 ?_; (with_reducible refine (F38.calls k1 _ _ y106 ((rd_T23 l0 x4_1).f0) ((rd_T23 l0 x4_1).f1) ((rd_T23 l0 x4_1).f2) ((rd_T23 l0 x4_1).f3) ((rd_T23 l0 x4_1).f4) ((rd_T23 l0 x4_1).f5) ((rd_T23 l0 x4_1).f6) ((rd_T23 l0 x4_1).f7) t111 _ ?side1 ?side2 A12.out).mono ?_); (case side1 => repeat (first | exact (Kd.C_below HR109.out HB.out) | (with_reducible refine Kd.C_alloc ?_ _) | (with_reducible refine Kd.C_drewN ?_ _) | (with_reducible refine Kd.C_drew ?_))); (case side2 => exact HC109.out); rintro e w17 ⟨rfl, hb⟩; refine ⟨_, rfl, ?_⟩; replace HB := Aside0.mk (below_step pbb2_3 hb); (try clear hb); (try clear hb2); (try clear hk); (try clear hi); refine hK.out _ _ ⟨((HB.out.cell (World.block_lt_of_cell? w _ hw110_0)).trans hw110_0), ((HB.out.cell (World.block_lt_of_cell? w _ hw110_1)).trans hw110_1), ((HB.out.cell (World.block_lt_of_cell? w _ hw110_2)).trans hw110_2), ((HB.out.cell (World.block_lt_of_cell? w _ hw110_3)).trans hw110_3), ((HB.out.cell (World.block_lt_of_cell? w _ hw110_4)).trans hw110_4), ((HB.out.cell (World.block_lt_of_cell? w _ hw110_5)).trans hw110_5), ((HB.out.cell (World.block_lt_of_cell? w _ hw110_6)).trans hw110_6), ((HB.out.cell (World.block_lt_of_cell? w _ hw110_7)).trans hw110_7)⟩ (fun hHeld => ?_); clear hK K; refine norm_ (a' := ?_) ?_ ?_; rotate_left
           ·show Act.put _ (some 47) _ = _; simp only [Act.put, List.setIfInBounds_toArray, List.set_cons_zero, List.set_cons_succ, i64_w, i32_w]
            rfl
           refine pv_ 8 6 (bq 9 511) HT_ ?_; refine done_ (done_of HT_.out (by kernel_rfl)) ?_; (try go_wp2)
           go_roundg k1
           case measure => have := HK1.out; omega
           case rel => exact ⟨(wrap64 (x4_1 + 1)), pbb2_0, H', ⟨pbb6_1⟩, ⟨pbb2_3⟩⟩
          ·rw [if_neg c13] at H; have c13b0 := nF_ c13; have c13b1 := nT_ c13; simp only [Option.some.injEq, Prod.mk.injEq] at H; obtain ⟨rfl, rfl⟩ := H; have p101 : 0 ≤ (x4_1 : Int) := of_decide_eq_true pbb2_4; have q101 : x4_1 < (l0.length : Int) := of_decide_eq_true pbb2_4; obtain ⟨ad101, e101, hx101_0, hx101_1, hx101_2, hx101_3, hx101_4, hx101_5, hx101_6, hx101_7⟩ := up8 HB.out (at_T23 HR0.out x4_1 p101 q101)
           cases e101
           replace p101 := eq_true p101; replace q101 := eq_true q101; have p102 : 0 ≤ (x4_1 : Int) := of_decide_eq_true pbb2_4; have q102 : x4_1 < (l0.length : Int) := of_decide_eq_true pbb2_4; obtain ⟨ad102, e102, hx102_0, hx102_1, hx102_2, hx102_3, hx102_4, hx102_5, hx102_6, hx102_7⟩ := up8 HB.out (at_T23 HR0.out x4_1 p102 q102); obtain rfl : ad101 = ad102 := (by injection e102); replace p102 := eq_true p102; replace q102 := eq_true q102; (try go_wp2_with (first | ((with_reducible refine gate_callee (f := 13) rfl ?_); refine goesL_ (some 29) rfl rfl Tryd.func13 (by kernel_rfl) rfl #[.agg #[.int .i64 ((rd_T23 l0 x4_1).f0), .int .i64 ((rd_T23 l0 x4_1).f1), .string ((rd_T23 l0 x4_1).f2), .int .i64 ((rd_T23 l0 x4_1).f3), .int .i64 ((rd_T23 l0 x4_1).f4), .int .i64 ((rd_T23 l0 x4_1).f5), .string ((rd_T23 l0 x4_1).f6), .int .i64 ((rd_T23 l0 x4_1).f7)]] rfl pbb2_2 ?_; (with_reducible refine (F13.calls k1 ((rd_T23 l0 x4_1).f0) ((rd_T23 l0 x4_1).f1) ((rd_T23 l0 x4_1).f2) ((rd_T23 l0 x4_1).f3) ((rd_T23 l0 x4_1).f4) ((rd_T23 l0 x4_1).f5) ((rd_T23 l0 x4_1).f6) ((rd_T23 l0 x4_1).f7) t103 _ A6.out).mono ?_); rintro e w18 ⟨rfl, hb⟩; refine ⟨_, rfl, ?_⟩; replace HB := Aside0.mk (below_step pbb2_3 hb); (try clear hb); (try clear hb2); (try clear hk); (try clear hi); have p104 : 0 ≤ (x4_1 : Int) := of_decide_eq_true pbb2_4; have q104 : x4_1 < (l0.length : Int) := of_decide_eq_true pbb2_4; obtain ⟨ad104, e104, hx104_0, hx104_1, hx104_2, hx104_3, hx104_4, hx104_5, hx104_6, hx104_7⟩ := up8 HB.out (at_T23 HR0.out x4_1 p104 q104); obtain rfl : ad101 = ad104 := (by injection e104); replace p104 := eq_true p104; replace q104 := eq_true q104) | ((with_reducible refine gate_callee (f := 36) rfl ?_); refine goesL_ (some 39) rfl rfl Tryd.func36 (by kernel_rfl) rfl #[.int .i64 ((rd_T23 l0 x4_1).f3)] rfl pbb2_2 ?_; (with_reducible refine (F36.calls ((rd_T23 l0 x4_1).f3) true _ A8.out).mono ?_); rintro e w' ⟨rfl, ⟨nd, rfl⟩⟩; refine ⟨_, rfl, ?_⟩))); (try (rw [drewN_self w18]; generalize hq_ : World.drewN w18 _ = w18; have n0_ : Aside0 (Below w.heap.size w w18) := ⟨pbb4_0⟩; clear HB hq_; have HB := n0_; clear n0_)); replace HB := Aside0.mk (below_drew1 HB.out); have q20 : (x4_1 : Int) ≤ ((l0.length : Int) : Int) := of_decide_eq_true pbb2_4; obtain ⟨i020, hi020, _, hsz20, _⟩ := info_parts info23; have hroom20 : l0.length ≤ c0 := HC0.out; have hC20 : Kd.C k23 _ (some ad101) l0.length l0 := HR0.out; have hcut20 := cut_to (P := Tryd.prog) 25 23 .i64 Tryd.underlying25 hi020 (some ad101) l0.length c0 x4_1 (of_decide_eq_true pbb2_4) q20 hroom20; have hr20 := Kd.C_take (m := (x4_1 : Int).toNat) hC20 (by omega); have hy20 : y106.length = (x4_1 : Int).toNat := (by rw [Ny106.out, List.length_take]; omega); rw [← Ny106.out] at hr20; rw [← hy20] at hcut20; have HR109 := Aside0.mk hr20; have HC109 := Aside0.mk (show y106.length ≤ c0 from by omega); clear hr20 hC20 hroom20 hi020 hsz20; have KY20 := Aside0.mk hy20; clear hy20; replace q20 := eq_true q20; have p110 : 0 ≤ (x4_1 : Int) := of_decide_eq_true pbb2_4; have q110 : x4_1 < (l0.length : Int) := of_decide_eq_true pbb2_4; obtain ⟨ad110, e110, hx110_0, hx110_1, hx110_2, hx110_3, hx110_4, hx110_5, hx110_6, hx110_7⟩ := at_T23 HR0.out x4_1 p110 q110; have hw110_7 := hx110_7; have hw110_6 := hx110_6; have hw110_5 := hx110_5; have hw110_4 := hx110_4; have hw110_3 := hx110_3; have hw110_2 := hx110_2; have hw110_1 := hx110_1; have hw110_0 := hx110_0; obtain rfl : ad101 = ad110 := (by injection e110); replace hx110_0 := (HB.out.cell (World.block_lt_of_cell? w _ hx110_0)).trans hx110_0; replace hx110_1 := (HB.out.cell (World.block_lt_of_cell? w _ hx110_1)).trans hx110_1; replace hx110_2 := (HB.out.cell (World.block_lt_of_cell? w _ hx110_2)).trans hx110_2; replace hx110_3 := (HB.out.cell (World.block_lt_of_cell? w _ hx110_3)).trans hx110_3; replace hx110_4 := (HB.out.cell (World.block_lt_of_cell? w _ hx110_4)).trans hx110_4; replace hx110_5 := (HB.out.cell (World.block_lt_of_cell? w _ hx110_5)).trans hx110_5; replace hx110_6 := (HB.out.cell (World.block_lt_of_cell? w _ hx110_6)).trans hx110_6; replace hx110_7 := (HB.out.cell (World.block_lt_of_cell? w _ hx110_7)).trans hx110_7; replace p110 := eq_true p110; replace q110 := eq_true q110; refine start_ (n := 9) (S := fun w' => w'.cell? (ad101.add ((x4_1).toNat * 8)) = some (.int .i64 ((rd_T23 l0 x4_1).f0)) ∧ w'.cell? ⟨(ad101.add ((x4_1).toNat * 8)).block, (ad101.add ((x4_1).toNat * 8)).off + 1, none⟩ = some (.int .i64 ((rd_T23 l0 x4_1).f1)) ∧ w'.cell? ⟨(ad101.add ((x4_1).toNat * 8)).block, (ad101.add ((x4_1).toNat * 8)).off + 2, none⟩ = some (.string ((rd_T23 l0 x4_1).f2)) ∧ w'.cell? ⟨(ad101.add ((x4_1).toNat * 8)).block, (ad101.add ((x4_1).toNat * 8)).off + 3, none⟩ = some (.int .i64 ((rd_T23 l0 x4_1).f3)) ∧ w'.cell? ⟨(ad101.add ((x4_1).toNat * 8)).block, (ad101.add ((x4_1).toNat * 8)).off + 4, none⟩ = some (.int .i64 ((rd_T23 l0 x4_1).f4)) ∧ w'.cell? ⟨(ad101.add ((x4_1).toNat * 8)).block, (ad101.add ((x4_1).toNat * 8)).off + 5, none⟩ = some (.int .i64 ((rd_T23 l0 x4_1).f5)) ∧ w'.cell? ⟨(ad101.add ((x4_1).toNat * 8)).block, (ad101.add ((x4_1).toNat * 8)).off + 6, none⟩ = some (.string ((rd_T23 l0 x4_1).f6)) ∧ w'.cell? ⟨(ad101.add ((x4_1).toNat * 8)).block, (ad101.add ((x4_1).toNat * 8)).off + 7, none⟩ = some (.int .i64 ((rd_T23 l0 x4_1).f7))) (ds := []) (bq 9 0) (by kernel_rfl) rfl rfl ⟨((HB.out.cell (World.block_lt_of_cell? w _ hw110_0)).trans hw110_0), ((HB.out.cell (World.block_lt_of_cell? w _ hw110_1)).trans hw110_1), ((HB.out.cell (World.block_lt_of_cell? w _ hw110_2)).trans hw110_2), ((HB.out.cell (World.block_lt_of_cell? w _ hw110_3)).trans hw110_3), ((HB.out.cell (World.block_lt_of_cell? w _ hw110_4)).trans hw110_4), ((HB.out.cell (World.block_lt_of_cell? w _ hw110_5)).trans hw110_5), ((HB.out.cell (World.block_lt_of_cell? w _ hw110_6)).trans hw110_6), ((HB.out.cell (World.block_lt_of_cell? w _ hw110_7)).trans hw110_7)⟩ (fun hHeld => ?_); refine with_tabW F15.tab12 F15.bits12 (fun HT_ HW_ => ?_); generalize w18.drew = w19 at HB HR109 hx110_0 hx110_1 hx110_2 hx110_3 hx110_4 hx110_5 hx110_6 hx110_7 hHeld ⊢; refine pv_ 0 40 (bq 9 1) HT_ ?_; refine pv_ 1 41 (bq 9 3) HT_ ?_; refine pv_ 2 42 (bq 9 7) HT_ ?_; refine pv_ 3 43 (bq 9 15) HT_ ?_; refine pv_ 4 44 (bq 9 31) HT_ ?_; refine pv_ 5 45 (bq 9 63) HT_ ?_; refine take_ (i := 6) (N := some 46) (v := ?_) (a' := ?_) (bq 9 127) rfl rfl (take_ofW HT_.out HW_.out (by kernel_rfl)) (fun _ _ _ h => h) (Or.inl ⟨by rfl, ?_⟩) hHeld ?_ ?_; rotate_left
           ·rintro w' ⟨s0, s1, s2, s3, s4, s5, s6, s7⟩; go_simp; (with_reducible rfl)
           rotate_left
           ·exact cbb2_0
           refine one_ (i := 7) (N := some 47) (bq 9 255) rfl rfl (one_of HT_.out (by kernel_rfl)) (by decide) (fun K hK => ?_); refine goes_ Tryd.func38 (by kernel_rfl) rfl #[.slice (some ad101) y106.length c0, .agg #[.int .i64 ((rd_T23 l0 x4_1).f0), .int .i64 ((rd_T23 l0 x4_1).f1), .string ((rd_T23 l0 x4_1).f2), .int .i64 ((rd_T23 l0 x4_1).f3), .int .i64 ((rd_T23 l0 x4_1).f4), .int .i64 ((rd_T23 l0 x4_1).f5), .string ((rd_T23 l0 x4_1).f6), .int .i64 ((rd_T23 l0 x4_1).f7)]] (by rfl) rfl rfl pbb2_2 ?_; (with_reducible refine (F38.calls k1 _ _ y106 ((rd_T23 l0 x4_1).f0) ((rd_T23 l0 x4_1).f1) ((rd_T23 l0 x4_1).f2) ((rd_T23 l0 x4_1).f3) ((rd_T23 l0 x4_1).f4) ((rd_T23 l0 x4_1).f5) ((rd_T23 l0 x4_1).f6) ((rd_T23 l0 x4_1).f7) t111 _ ?side1 ?side2 A12.out).mono ?_); (case side1 => repeat (first | exact (Kd.C_below HR109.out HB.out) | (with_reducible refine Kd.C_alloc ?_ _) | (with_reducible refine Kd.C_drewN ?_ _) | (with_reducible refine Kd.C_drew ?_))); (case side2 => exact HC109.out); rintro e w21 ⟨rfl, hb⟩; refine ⟨_, rfl, ?_⟩; replace HB := Aside0.mk (below_step pbb2_3 hb); (try clear hb); (try clear hb2); (try clear hk); (try clear hi); refine hK.out _ _ ⟨((HB.out.cell (World.block_lt_of_cell? w _ hw110_0)).trans hw110_0), ((HB.out.cell (World.block_lt_of_cell? w _ hw110_1)).trans hw110_1), ((HB.out.cell (World.block_lt_of_cell? w _ hw110_2)).trans hw110_2), ((HB.out.cell (World.block_lt_of_cell? w _ hw110_3)).trans hw110_3), ((HB.out.cell (World.block_lt_of_cell? w _ hw110_4)).trans hw110_4), ((HB.out.cell (World.block_lt_of_cell? w _ hw110_5)).trans hw110_5), ((HB.out.cell (World.block_lt_of_cell? w _ hw110_6)).trans hw110_6), ((HB.out.cell (World.block_lt_of_cell? w _ hw110_7)).trans hw110_7)⟩ (fun hHeld => ?_); clear hK K; refine norm_ (a' := ?_) ?_ ?_; rotate_left
           ·show Act.put _ (some 47) _ = _; simp only [Act.put, List.setIfInBounds_toArray, List.set_cons_zero, List.set_cons_succ, i64_w, i32_w]
            rfl
           refine pv_ 8 6 (bq 9 511) HT_ ?_; refine done_ (done_of HT_.out (by kernel_rfl)) ?_; (try go_wp2)
           go_ret2
           exact ⟨pbb2_5, pbb2_3⟩
         ·rw [if_neg c11] at H; exact absurd H (by simp)
        ·replace c9 := Bool.eq_false_iff.mpr c9; subst c9; rw [if_neg (show ¬ (false = true) by decide)] at H; have H' := Aside0.mk H; clear H; have p101 : 0 ≤ (x4_1 : Int) := of_decide_eq_true pbb2_4; have q101 : x4_1 < (l0.length : Int) := of_decide_eq_true pbb2_4; obtain ⟨ad101, e101, hx101_0, hx101_1, hx101_2, hx101_3, hx101_4, hx101_5, hx101_6, hx101_7⟩ := up8 HB.out (at_T23 HR0.out x4_1 p101 q101)
         cases e101
         replace p101 := eq_true p101; replace q101 := eq_true q101; have p102 : 0 ≤ (x4_1 : Int) := of_decide_eq_true pbb2_4; have q102 : x4_1 < (l0.length : Int) := of_decide_eq_true pbb2_4; obtain ⟨ad102, e102, hx102_0, hx102_1, hx102_2, hx102_3, hx102_4, hx102_5, hx102_6, hx102_7⟩ := up8 HB.out (at_T23 HR0.out x4_1 p102 q102); obtain rfl : ad101 = ad102 := (by injection e102); replace p102 := eq_true p102; replace q102 := eq_true q102
         go_wp2_with (first | ((with_reducible refine gate_callee (f := 13) rfl ?_); refine goesL_ (some 29) rfl rfl Tryd.func13 (by kernel_rfl) rfl #[.agg #[.int .i64 ((rd_T23 l0 x4_1).f0), .int .i64 ((rd_T23 l0 x4_1).f1), .string ((rd_T23 l0 x4_1).f2), .int .i64 ((rd_T23 l0 x4_1).f3), .int .i64 ((rd_T23 l0 x4_1).f4), .int .i64 ((rd_T23 l0 x4_1).f5), .string ((rd_T23 l0 x4_1).f6), .int .i64 ((rd_T23 l0 x4_1).f7)]] rfl pbb2_2 ?_; (with_reducible refine (F13.calls k1 ((rd_T23 l0 x4_1).f0) ((rd_T23 l0 x4_1).f1) ((rd_T23 l0 x4_1).f2) ((rd_T23 l0 x4_1).f3) ((rd_T23 l0 x4_1).f4) ((rd_T23 l0 x4_1).f5) ((rd_T23 l0 x4_1).f6) ((rd_T23 l0 x4_1).f7) t103 _ A6.out).mono ?_); rintro e w22 ⟨rfl, hb⟩; refine ⟨_, rfl, ?_⟩; replace HB := Aside0.mk (below_step pbb2_3 hb); (try clear hb); (try clear hb2); (try clear hk); (try clear hi); have p104 : 0 ≤ (x4_1 : Int) := of_decide_eq_true pbb2_4; have q104 : x4_1 < (l0.length : Int) := of_decide_eq_true pbb2_4; obtain ⟨ad104, e104, hx104_0, hx104_1, hx104_2, hx104_3, hx104_4, hx104_5, hx104_6, hx104_7⟩ := up8 HB.out (at_T23 HR0.out x4_1 p104 q104); obtain rfl : ad101 = ad104 := (by injection e104); replace p104 := eq_true p104; replace q104 := eq_true q104) | ((with_reducible refine gate_callee (f := 36) rfl ?_); refine goesL_ (some 39) rfl rfl Tryd.func36 (by kernel_rfl) rfl #[.int .i64 ((rd_T23 l0 x4_1).f3)] rfl pbb2_2 ?_; (with_reducible refine (F36.calls ((rd_T23 l0 x4_1).f3) false _ A8.out).mono ?_); rintro e w' ⟨rfl, ⟨nd, rfl⟩⟩; refine ⟨_, rfl, ?_⟩))
         go_roundg k1
         case measure => have := HK1.out; omega
         case rel => exact ⟨(wrap64 (x4_1 + 1)), pbb2_0, H', ⟨pbb6_1⟩, ⟨pbb2_3⟩⟩
       ·rw [if_neg c7] at H; have c7b0 := nF_ c7; have c7b1 := nT_ c7; simp only [Option.some.injEq, Prod.mk.injEq] at H; obtain ⟨rfl, rfl⟩ := H; have p101 : 0 ≤ (x4_1 : Int) := of_decide_eq_true pbb2_4; have q101 : x4_1 < (l0.length : Int) := of_decide_eq_true pbb2_4; obtain ⟨ad101, e101, hx101_0, hx101_1, hx101_2, hx101_3, hx101_4, hx101_5, hx101_6, hx101_7⟩ := up8 HB.out (at_T23 HR0.out x4_1 p101 q101)
        cases e101
        replace p101 := eq_true p101; replace q101 := eq_true q101; have p102 : 0 ≤ (x4_1 : Int) := of_decide_eq_true pbb2_4; have q102 : x4_1 < (l0.length : Int) := of_decide_eq_true pbb2_4; obtain ⟨ad102, e102, hx102_0, hx102_1, hx102_2, hx102_3, hx102_4, hx102_5, hx102_6, hx102_7⟩ := up8 HB.out (at_T23 HR0.out x4_1 p102 q102); obtain rfl : ad101 = ad102 := (by injection e102); replace p102 := eq_true p102; replace q102 := eq_true q102
        go_wp2_with (first | ((with_reducible refine gate_callee (f := 13) rfl ?_); refine goesL_ (some 29) rfl rfl Tryd.func13 (by kernel_rfl) rfl #[.agg #[.int .i64 ((rd_T23 l0 x4_1).f0), .int .i64 ((rd_T23 l0 x4_1).f1), .string ((rd_T23 l0 x4_1).f2), .int .i64 ((rd_T23 l0 x4_1).f3), .int .i64 ((rd_T23 l0 x4_1).f4), .int .i64 ((rd_T23 l0 x4_1).f5), .string ((rd_T23 l0 x4_1).f6), .int .i64 ((rd_T23 l0 x4_1).f7)]] rfl pbb2_2 ?_; (with_reducible refine (F13.calls k1 ((rd_T23 l0 x4_1).f0) ((rd_T23 l0 x4_1).f1) ((rd_T23 l0 x4_1).f2) ((rd_T23 l0 x4_1).f3) ((rd_T23 l0 x4_1).f4) ((rd_T23 l0 x4_1).f5) ((rd_T23 l0 x4_1).f6) ((rd_T23 l0 x4_1).f7) t103 _ A6.out).mono ?_); rintro e w23 ⟨rfl, hb⟩; refine ⟨_, rfl, ?_⟩; replace HB := Aside0.mk (below_step pbb2_3 hb); (try clear hb); (try clear hb2); (try clear hk); (try clear hi)))
        go_ret2
        exact ⟨pbb2_5, pbb2_3⟩
      ·rw [if_neg c5] at H; have c5b0 := nF_ c5; have c5b1 := nT_ c5; simp only [Option.some.injEq, Prod.mk.injEq] at H; obtain ⟨rfl, rfl⟩ := H; have p101 : 0 ≤ (x4_1 : Int) := of_decide_eq_true pbb2_4; have q101 : x4_1 < (l0.length : Int) := of_decide_eq_true pbb2_4; obtain ⟨ad101, e101, hx101_0, hx101_1, hx101_2, hx101_3, hx101_4, hx101_5, hx101_6, hx101_7⟩ := up8 HB.out (at_T23 HR0.out x4_1 p101 q101)
       cases e101
       replace p101 := eq_true p101; replace q101 := eq_true q101
       go_wp2
       go_ret2
       exact ⟨pbb2_5, pbb2_3⟩
     ·rw [if_neg c4] at H; exact absurd H (by simp)
    ·rw [if_neg c3] at H; have c3b0 := decide_eq_false c3; clear c3; simp only [Option.some.injEq, Prod.mk.injEq] at H; obtain ⟨rfl, rfl⟩ := H
     go_wp2
     go_ret2
     exact ⟨pbb2_5, pbb2_3⟩
end Go.Proofs.YtegpappenmhndaaDoor.M
end
section
namespace Go.Proofs.YtegpappenmhndaaDoor.M
open Go.RowKit Go.Proofs.YtegpappenmhndaaDoorW.PrintWords Go.Proofs.YtegpappenmhndaaDoorW.PrintLast
set_option linter.unusedVariables false
set_option linter.unusedSimpArgs false
abbrev rdv (l : List MV) (i : Int) : MV := rd_T23 l i
theorem rdv_at (P R : List MV) (m : MV) (i : Int) (h : i = (P.length : Int)) : rdv (P ++ m :: R) i = m := by
 subst h; simp [rdv, rd_T23]
theorem rdv_mem {l : List MV} {i : Int} (h0 : 0 ≤ i) (h1 : i < l.length) : rdv l i ∈ l := by
 obtain ⟨n, rfl⟩ := Int.eq_ofNat_of_zero_le h0; have hn : n < l.length := by omega
 show l.getD (n : Int).toNat _ ∈ l; rw [Int.toNat_natCast, List.getD_eq_getElem?_getD, List.getElem?_eq_getElem hn]; exact List.getElem_mem hn
def onem (m : MV) : Int := onev m.f1 m.f2 m.f3 m.f4 m.f5 m.f6 m.f7
theorem onev_zero {value : Int} {item : ByteArray} {kind qty cost : Int} {lot : ByteArray} {ref : Int} (h : onev value item kind qty cost lot ref = 0) : dayv value = true ∧ codev item = true ∧ inv kind 1 6 = true ∧ qtyv kind qty = true ∧ cstv kind cost = true ∧ lotv kind lot = true ∧ rfv kind ref = true := by
 unfold onev at h
 by_cases c1 : dayv value = false
 ·rw [if_pos c1] at h; omega
 rw [if_neg c1] at h
 by_cases c2 : codev item = false
 ·rw [if_pos c2] at h; omega
 rw [if_neg c2] at h
 by_cases c3 : inv kind 1 6 = false
 ·rw [if_pos c3] at h; omega
 rw [if_neg c3] at h
 by_cases c4 : (qtyv kind qty && cstv kind cost) = false
 ·rw [if_pos c4] at h; omega
 rw [if_neg c4] at h
 by_cases c5 : lotv kind lot = false
 ·rw [if_pos c5] at h; omega
 rw [if_neg c5] at h
 by_cases c6 : rfv kind ref = false
 ·rw [if_pos c6] at h; omega
 have c4 : (qtyv kind qty && cstv kind cost) = true := by simpa using c4
 rw [Bool.and_eq_true] at c4; exact ⟨by simpa using c1, by simpa using c2, by simpa using c3, c4.1, c4.2, by simpa using c5, by simpa using c6⟩
theorem onev_ok {value : Int} {item : ByteArray} {kind qty cost : Int} {lot : ByteArray} {ref : Int} (h1 : dayv value = true) (h2 : codev item = true) (h3 : inv kind 1 6 = true) (h4 : qtyv kind qty = true) (h5 : cstv kind cost = true) (h6 : lotv kind lot = true) (h7 : rfv kind ref = true) : onev value item kind qty cost lot ref = 0 := by
 unfold onev
 simp [h1, h2, h3, h4, h5, h6, h7]
theorem qty_range {m : MV} (h : onem m = 0) : 0 ≤ m.f4 ∧ m.f4 ≤ 1000000000 ∧ (m.f3 = 5 → m.f4 = 0) ∧ (m.f3 = 1 → 1 ≤ m.f4) ∧ (folv m.f3 = true → 1 ≤ m.f7) := by
 obtain ⟨_, _, h3, h4, _, _, h7⟩ := onev_zero h
 unfold qtyv at h4
 have h8 : folv m.f3 = true → 1 ≤ m.f7 := by
  intro hf
  unfold rfv at h7
  rw [if_pos hf] at h7; exact of_decide_eq_true h7
 by_cases c : m.f3 = 5 ∨ m.f3 = 6
 ·rw [if_pos c] at h4; have := eq_of_beq h4; exact ⟨by omega, by omega, fun _ => this, by omega, h8⟩
 ·rw [if_neg c] at h4; have := of_decide_eq_true h4; exact ⟨by omega, by omega, by omega, by omega, h8⟩
def qsum : List MV → Int → Int → Int
 | [], _, _ => 0
 | y :: r, kind, ref => (if y.f3 = kind ∧ y.f7 = ref then y.f4 else 0) + qsum r kind ref
theorem qsum_app (P : List MV) (m : MV) (kind ref : Int) : qsum (P ++ [m]) kind ref = qsum P kind ref + if m.f3 = kind ∧ m.f7 = ref then m.f4 else 0 := by
 induction P with
 | nil => simp [qsum]
 | cons y r ih => simp only [List.cons_append, qsum, ih]; omega
def Good (P : List MV) : Prop := ∀ y ∈ P, onem y = 0
theorem Good.app {P : List MV} {m : MV} (h : Good P) (hm : onem m = 0) : Good (P ++ [m]) := by
 intro y hy
 rcases List.mem_append.1 hy with h1 | h1
 ·exact h y h1
 ·rw [List.mem_singleton.1 h1]; exact hm
theorem qsum_range : ∀ (P : List MV) (kind ref : Int), Good P → 0 ≤ qsum P kind ref ∧ qsum P kind ref ≤ 1000000000 * (P.length : Int) ∧ (kind = 5 → qsum P kind ref = 0)
 | [], kind, ref, _ => by simp [qsum]
 | y :: r, kind, ref, h => by
  have ih := qsum_range r kind ref (fun z hz => h z (List.mem_cons_of_mem _ hz)); have hy := qty_range (h y (List.mem_cons_self)); simp only [qsum, List.length_cons]
  by_cases c : y.f3 = kind ∧ y.f7 = ref
  ·rw [if_pos c]; refine ⟨by omega, by omega, fun k5 => ?_⟩; have := ih.2.2 k5; have := hy.2.2.1 (by omega)
   omega
  ·rw [if_neg c]; refine ⟨by omega, by omega, fun k5 => ?_⟩; have := ih.2.2 k5
   omega
def trg (kind : Int) : Int := if kind = 3 then 2 else 1
def refv (P : List MV) (m : MV) : Int :=
 if m.f7 > (P.length : Int) then 28
 else if (rdv P (m.f7 - 1)).f2.toList = m.f2.toList ∧ (rdv P (m.f7 - 1)).f3 = trg m.f3 then
  (if m.f1 < (rdv P (m.f7 - 1)).f1 then 17 else if ¬ m.f3 = 5 ∧ m.f4 + qsum P m.f3 m.f7 > (rdv P (m.f7 - 1)).f4 then 21 else 0)
 else 28
def chkv (P : List MV) : List MV → Int × Int
 | [] => (-1, 0)
 | m :: r => if m.f0 = (P.length : Int) + 1 then (if onem m = 0 then (if folv m.f3 = true then (if refv P m = 0 then chkv (P ++ [m]) r else ((P.length : Int), refv P m)) else chkv (P ++ [m]) r) else ((P.length : Int), onem m)) else ((P.length : Int), 17)
def Checkv (l : List MV) : Int × Int := if (l.length : Int) > 2000 then (0, 9) else chkv [] l
def MapOk (L : Rmap) (P : List MV) : Prop := ∀ kind ref, folv kind = true → (aget L (kind, ref)).getD 0 = qsum P kind ref
theorem aget_aput_other {κ ν : Type} [DecidableEq κ] (k k' : κ) (v : ν) (h : k ≠ k') : ∀ L : List (κ × ν), aget (aput L k v) k' = aget L k'
 | [] => by simp [aput, aget, h]
 | p :: r => by
  unfold aput
  by_cases c : p.1 = k
  ·simp only [c, if_true, aget, if_neg h]
  ·simp only [if_neg c, aget, aget_aput_other k k' v h r]
theorem F55.eq (n : Int) : F55.f n = some (trg n) := by
 unfold F55.f trg
 by_cases h : n = 3 <;> simp [h]
theorem F37.eq {P : List MV} {m : MV} {L : Rmap} (hP : Good P) (hl : P.length ≤ 2000) (hm : onem m = 0) (hf : folv m.f3 = true) (hL : MapOk L P) :
  ∃ L', F37.f P m L = some (refv P m, L') ∧ (refv P m = 0 → MapOk L' (P ++ [m])) := by
 have hq := qty_range hm; have h7 := hq.2.2.2.2 hf; have hs := qsum_range P m.f3 m.f7 hP
 unfold F37.f refv
 by_cases c1 : m.f7 > (P.length : Int)
 ·simp only [if_pos c1]; exact ⟨L, rfl, by omega⟩
 simp only [if_neg c1, if_neg (show ¬ m.f7 < 1 by omega), F55.eq, Option.bind_some]
 by_cases c2 : (rdv P (m.f7 - 1)).f2.toList = m.f2.toList
 rotate_left
 ·simp only [if_neg c2, if_neg (show ¬ ((rdv P (m.f7 - 1)).f2.toList = m.f2.toList ∧ (rdv P (m.f7 - 1)).f3 = trg m.f3) from fun h => c2 h.1)]; exact ⟨L, rfl, by omega⟩
 by_cases c3 : (rdv P (m.f7 - 1)).f3 = trg m.f3
 rotate_left
 ·simp only [if_pos c2, if_neg c3, if_neg (show ¬ ((rdv P (m.f7 - 1)).f2.toList = m.f2.toList ∧ (rdv P (m.f7 - 1)).f3 = trg m.f3) from fun h => c3 h.2)]; exact ⟨L, rfl, by omega⟩
 simp only [if_pos c2, if_pos c3, if_pos (show (rdv P (m.f7 - 1)).f2.toList = m.f2.toList ∧ (rdv P (m.f7 - 1)).f3 = trg m.f3 from ⟨c2, c3⟩)]
 by_cases c4 : m.f1 < (rdv P (m.f7 - 1)).f1
 ·simp only [if_pos c4]; exact ⟨L, rfl, by omega⟩
 simp only [if_neg c4]; have hx : onem (rdv P (m.f7 - 1)) = 0 := hP _ (rdv_mem (by omega) (by omega)); have hxq := qty_range hx; have e : (aget L (m.f3, m.f7)).getD 0 = qsum P m.f3 m.f7 := hL _ _ hf; rw [e, w64 (n := qsum P m.f3 m.f7 + m.f4) (by omega) (by omega)]
 have ok : MapOk (aput L (m.f3, m.f7) (qsum P m.f3 m.f7 + m.f4)) (P ++ [m]) := by
  intro kind ref hk; rw [qsum_app]
  by_cases d : m.f3 = kind ∧ m.f7 = ref
  ·rw [if_pos d, ← d.1, ← d.2, aget_aput_same]; rfl
  ·rw [if_neg d, aget_aput_other _ _ _ (by intro h; exact d (Prod.mk.inj h)), hL _ _ hk, Int.add_zero]
 by_cases c5 : m.f3 = 5
 ·have h0 : qsum P m.f3 m.f7 + m.f4 = 0 := by have := hs.2.2 c5; have := hq.2.2.1 c5; omega
  have hx1 : 1 ≤ (rdv P (m.f7 - 1)).f4 := hxq.2.2.2.1 (by rw [c3, c5]; rfl); have h9 : ¬ qsum P m.f3 m.f7 + m.f4 > (rdv P (m.f7 - 1)).f4 := by omega
  simp only [if_neg (show ¬ (¬ m.f3 = 5 ∧ m.f4 + qsum P m.f3 m.f7 > (rdv P (m.f7 - 1)).f4) from fun h => h.1 c5), if_neg h9]; exact ⟨_, rfl, fun _ => ok⟩
 ·by_cases c6 : qsum P m.f3 m.f7 + m.f4 > (rdv P (m.f7 - 1)).f4
  ·simp only [if_pos c6, if_pos (show ¬ m.f3 = 5 ∧ m.f4 + qsum P m.f3 m.f7 > (rdv P (m.f7 - 1)).f4 from ⟨c5, by omega⟩)]; exact ⟨_, rfl, by omega⟩
  ·simp only [if_neg c6, if_neg (show ¬ (¬ m.f3 = 5 ∧ m.f4 + qsum P m.f3 m.f7 > (rdv P (m.f7 - 1)).f4) from fun h => c6 (by omega))]; exact ⟨_, rfl, fun _ => ok⟩
theorem F14.go (l : List MV) (hl : l.length ≤ 2000) : ∀ (R P : List MV) (L : Rmap), P ++ R = l → Good P → MapOk L P → Ev (fun k => chkL k months l R P.length L) (chkv P R)
 | [], P, L, _, _, _ => by simp only [chkL, chkv]; exact Ev.const _
 | m :: R, P, L, e, hP, hL => by
  have hPl : P.length ≤ 2000 := by rw [← e, List.length_append] at hl; omega
  have ht : l.take P.length = P := by rw [← e]; simp
  have hn : (P ++ [m]).length = P.length + 1 := by simp
  simp only [chkL, chkv]
  by_cases c1 : m.f0 = (P.length : Int) + 1
  rotate_left
  ·simp only [if_neg c1]; exact Ev.const _
  simp only [if_pos c1]; refine Ev.bind (F12.eq m.f0 m.f1 m.f2 m.f3 m.f4 m.f5 m.f6 m.f7) ?_; show Ev (fun k => if onem m = 0 then _ else _) _
  by_cases c2 : onem m = 0
  rotate_left
  ·simp only [if_neg c2]; exact Ev.const _
  simp only [if_pos c2, F31.eq, Option.bind_some]
  by_cases c3 : folv m.f3 = true
  ·simp only [if_pos c3, ht]; obtain ⟨L', h1, h2⟩ := F37.eq hP hPl c2 c3 hL; simp only [h1, Option.bind_some]
   by_cases c4 : refv P m = 0
   ·simp only [if_pos c4]; rw [← hn]; exact F14.go l hl R (P ++ [m]) L' (by simpa using e) (hP.app c2) (h2 c4)
   ·simp only [if_neg c4]; exact Ev.const _
  ·simp only [if_neg c3]; rw [← hn]; refine F14.go l hl R (P ++ [m]) L (by simpa using e) (hP.app c2) ?_; intro kind ref hk; rw [qsum_app, if_neg (fun h => c3 (by rw [h.1]; exact hk)), hL _ _ hk, Int.add_zero]
theorem F14.eq (l : List MV) : Ev (fun k => F14.f k l months) (Checkv l) := by
 unfold F14.f Checkv
 by_cases c : l.length > 2000
 ·simp only [if_pos c, if_pos (show (l.length : Int) > 2000 by omega)]; exact Ev.const _
 ·simp only [if_neg c, if_neg (show ¬ (l.length : Int) > 2000 by omega)]; exact F14.go l (by omega) l [] [] rfl (by intro y hy; simp at hy) (by intro a b _; rfl)
theorem F38.go (m x : MV) : ∀ (B A : List MV) (q i : Int), i = (A.length : Int) → Good (A ++ B) → (A ++ B).length ≤ 2000 → 0 ≤ q → q ≤ 1000000000 * (A.length : Int) + 1000000000 →
  Ev (fun k => F38.l0 k (A ++ B) q i m.f0 m.f1 m.f2 m.f3 m.f4 m.f5 m.f6 m.f7 x.f0 x.f1 x.f2 x.f3 x.f4 x.f5 x.f6 x.f7) (if ¬ m.f3 = 5 ∧ q + qsum B m.f3 m.f7 > x.f4 then 21 else 0)
 | [], A, q, i, hi, _, hl, h0, h1 => by
  refine Ev.succ ?_; simp only [List.append_nil] at hl ⊢; simp only [F38.l0, if_neg (show ¬ i < (A.length : Int) by omega), qsum, Int.add_zero]
  by_cases c : m.f3 = 5
  ·simp only [if_pos c, if_neg (show ¬ (¬ m.f3 = 5 ∧ q > x.f4) from fun h => h.1 c)]; exact Ev.const _
  ·simp only [if_neg c]
   by_cases d : q > x.f4
   ·simp only [if_pos d, if_pos (show ¬ m.f3 = 5 ∧ q > x.f4 from ⟨c, d⟩)]; exact Ev.const _
   ·simp only [if_neg d, if_neg (show ¬ (¬ m.f3 = 5 ∧ q > x.f4) from fun h => d h.2)]; exact Ev.const _
 | y :: B, A, q, i, hi, hg, hl, h0, h1 => by
  have hy := qty_range (hg y (by simp)); have hl2 : A.length + (B.length + 1) ≤ 2000 := by simpa using hl
  have ih : ∀ q', 0 ≤ q' → q' ≤ 1000000000 * (A.length : Int) + 2000000000 → _ := fun q' a b => F38.go m x B (A ++ [y]) q' (i + 1) (by simp; omega) (by simpa using hg) (by simpa using hl) a (by simp; omega); refine Ev.succ ?_; simp only [F38.l0, if_pos (show i < ((A ++ y :: B).length : Int) by simp; omega), if_pos (show (0 : Int) ≤ i by omega)]; rw [show rd_T23 (A ++ y :: B) i = y from rdv_at A B y i hi, w64 (n := i + 1) (by omega) (by omega)]; rw [show A ++ y :: B = (A ++ [y]) ++ B by simp]; simp only [qsum]
  by_cases c : y.f3 = m.f3
  ·simp only [if_pos c]
   by_cases d : y.f7 = m.f7
   ·simp only [if_pos d, if_pos (show y.f3 = m.f3 ∧ y.f7 = m.f7 from ⟨c, d⟩)]; rw [w64 (n := q + y.f4) (by omega) (by omega), ← Int.add_assoc]; exact ih (q + y.f4) (by omega) (by omega)
   ·simp only [if_neg d, if_neg (show ¬ (y.f3 = m.f3 ∧ y.f7 = m.f7) from fun h => d h.2), Int.zero_add]; exact ih q (by omega) (by omega)
  ·simp only [if_neg c, if_neg (show ¬ (y.f3 = m.f3 ∧ y.f7 = m.f7) from fun h => c h.1), Int.zero_add]; exact ih q (by omega) (by omega)
theorem F38.eq {P : List MV} {m : MV} (hP : Good P) (hl : P.length ≤ 2000) (hm : onem m = 0) (hf : folv m.f3 = true) :
  Ev (fun k => F38.f k P m.f0 m.f1 m.f2 m.f3 m.f4 m.f5 m.f6 m.f7) (refv P m) := by
 have hq := qty_range hm; have h7 := hq.2.2.2.2 hf
 unfold F38.f refv
 by_cases c1 : m.f7 > (P.length : Int)
 ·simp only [if_pos c1]; exact Ev.const _
 simp only [if_neg c1]; rw [w64 (n := m.f7 - 1) (by omega) (by omega)]; simp only [if_pos (show (0 : Int) ≤ m.f7 - 1 by omega), if_pos (show m.f7 - 1 < (P.length : Int) by omega)]
 have fin : ∀ t : Int, t = trg m.f3 → Ev (fun k => F38.j0 k P t m.f0 m.f1 m.f2 m.f3 m.f4 m.f5 m.f6 m.f7 (rdv P (m.f7 - 1)).f0 (rdv P (m.f7 - 1)).f1 (rdv P (m.f7 - 1)).f2 (rdv P (m.f7 - 1)).f3 (rdv P (m.f7 - 1)).f4 (rdv P (m.f7 - 1)).f5 (rdv P (m.f7 - 1)).f6 (rdv P (m.f7 - 1)).f7)
   (if (rdv P (m.f7 - 1)).f2.toList = m.f2.toList ∧ (rdv P (m.f7 - 1)).f3 = trg m.f3 then (if m.f1 < (rdv P (m.f7 - 1)).f1 then 17 else if ¬ m.f3 = 5 ∧ m.f4 + qsum P m.f3 m.f7 > (rdv P (m.f7 - 1)).f4 then 21 else 0) else 28) := by
  intro t ht; subst ht; refine Ev.succ ?_
  by_cases c2 : (rdv P (m.f7 - 1)).f2.toList = m.f2.toList
  rotate_left
  ·simp only [F38.j0, if_neg c2, if_neg (show ¬ ((rdv P (m.f7 - 1)).f2.toList = m.f2.toList ∧ (rdv P (m.f7 - 1)).f3 = trg m.f3) from fun h => c2 h.1)]; refine Ev.succ ?_; simp only [F38.j1, if_true]; exact Ev.const _
  simp only [F38.j0, if_pos c2]; refine Ev.succ ?_
  by_cases c3 : (rdv P (m.f7 - 1)).f3 = trg m.f3
  rotate_left
  ·simp only [F38.j1, bne_iff_ne.2 c3, if_true, if_neg (show ¬ ((rdv P (m.f7 - 1)).f2.toList = m.f2.toList ∧ (rdv P (m.f7 - 1)).f3 = trg m.f3) from fun h => c3 h.2)]; exact Ev.const _
  simp only [F38.j1, bne_eq_false_iff_eq.2 c3, Bool.false_eq_true, if_false, if_pos (show (rdv P (m.f7 - 1)).f2.toList = m.f2.toList ∧ (rdv P (m.f7 - 1)).f3 = trg m.f3 from ⟨c2, c3⟩)]
  by_cases c4 : m.f1 < (rdv P (m.f7 - 1)).f1
  ·simp only [if_pos c4]; exact Ev.const _
  simp only [if_neg c4]; exact F38.go m (rdv P (m.f7 - 1)) P [] m.f4 0 rfl hP hl (by omega) (by simp; omega)
 by_cases c : m.f3 = 3
 ·simp only [if_pos c]; exact fin 2 (by simp [trg, c])
 ·simp only [if_neg c]; exact fin 1 (by simp [trg, c])
theorem F15.go (l : List MV) (hl : l.length ≤ 2000) (hz : ∀ y ∈ l, y.f2.size ≤ 1000000000000000 ∧ y.f6.size ≤ 1000000000000000) : ∀ (R P : List MV), P ++ R = l → Good P → Ev (fun k => F15.l0 k l (P.length : Int)) (chkv P R)
 | [], P, e, _ => by
  refine Ev.succ ?_; have : P.length = l.length := by rw [← e]; simp
  simp only [F15.l0, chkv, if_neg (show ¬ (P.length : Int) < (l.length : Int) by omega)]; exact Ev.const _
 | m :: R, P, e, hP => by
  have hPl : P.length + (R.length + 1) = l.length := by rw [← e]; simp
  have ht : l.take P.length = P := by rw [← e]; simp
  have hn : (P ++ [m]).length = P.length + 1 := by simp
  have hr : rd_T23 l (P.length : Int) = m := by rw [← e]; exact rdv_at P R m _ rfl
  have hzm := hz m (by rw [← e]; simp); refine Ev.succ ?_; simp only [F15.l0, chkv, if_pos (show (P.length : Int) < (l.length : Int) by omega), if_pos (show (0 : Int) ≤ (P.length : Int) by omega), hr]; rw [w64 (n := (P.length : Int) + 1) (by omega) (by omega)]
  by_cases c1 : m.f0 = (P.length : Int) + 1
  rotate_left
  ·simp only [if_neg c1]; exact Ev.const _
  simp only [if_pos c1]; refine Ev.bind (F13.eq m.f0 m.f1 m.f2 m.f3 m.f4 m.f5 m.f6 m.f7 hzm.1 hzm.2) ?_; show Ev (fun k => if onem m = 0 then _ else _) _
  by_cases c2 : onem m = 0
  rotate_left
  ·simp only [if_neg c2]; exact Ev.const _
  simp only [if_pos c2, F36.eq, Option.bind_some, if_pos (show (P.length : Int) ≤ (l.length : Int) by omega), Int.toNat_natCast, ht]; rw [show (P.length : Int) + 1 = ((P ++ [m]).length : Int) by rw [hn]; omega]
  by_cases c3 : folv m.f3 = true
  ·simp only [if_pos c3]; refine Ev.bind (F38.eq hP (by omega) c2 c3) ?_
   by_cases c4 : refv P m = 0
   ·simp only [if_pos c4]; exact F15.go l hl hz R (P ++ [m]) (by simpa using e) (hP.app c2)
   ·simp only [if_neg c4]; exact Ev.const _
  ·simp only [if_neg c3]; exact F15.go l hl hz R (P ++ [m]) (by simpa using e) (hP.app c2)
theorem F15.eq (l : List MV) (hz : ∀ y ∈ l, y.f2.size ≤ 1000000000000000 ∧ y.f6.size ≤ 1000000000000000) : Ev (fun k => F15.f k l) (Checkv l) := by
 unfold F15.f Checkv
 by_cases c : (l.length : Int) > 2000
 ·simp only [if_pos c]; exact Ev.const _
 ·simp only [if_neg c]; exact F15.go l (by omega) hz l [] rfl (by intro y hy; simp at hy)
def ChkOk (P : List MV) : List MV → Prop
 | [] => True
 | m :: r => m.f0 = (P.length : Int) + 1 ∧ onem m = 0 ∧ (folv m.f3 = true → refv P m = 0) ∧ ChkOk (P ++ [m]) r
theorem chkv_ok : ∀ (R P : List MV), (chkv P R).2 = 0 ↔ ChkOk P R
 | [], P => by simp [chkv, ChkOk]
 | m :: R, P => by
  simp only [chkv, ChkOk]
  by_cases c1 : m.f0 = (P.length : Int) + 1
  rotate_left
  ·simp [if_neg c1, c1]
  by_cases c2 : onem m = 0
  rotate_left
  ·simp [if_pos c1, if_neg c2, c2]
  by_cases c3 : folv m.f3 = true
  ·by_cases c4 : refv P m = 0
   ·rw [if_pos c1, if_pos c2, if_pos c3, if_pos c4, chkv_ok R (P ++ [m])]; exact ⟨fun h => ⟨c1, c2, fun _ => c4, h⟩, fun h => h.2.2.2⟩
   ·simp [if_pos c1, if_pos c2, if_pos c3, if_neg c4, c4, c3]
  ·rw [if_pos c1, if_pos c2, if_neg c3, chkv_ok R (P ++ [m])]; exact ⟨fun h => ⟨c1, c2, fun h1 => absurd h1 c3, h⟩, fun h => h.2.2.2⟩
theorem ChkOk.fst : ∀ {R P : List MV}, ChkOk P R → chkv P R = (-1, 0)
 | [], P, _ => rfl
 | m :: R, P, h => by
  obtain ⟨h1, h2, h3, h4⟩ := h; simp only [chkv, if_pos h1, if_pos h2]
  by_cases c : folv m.f3 = true
  ·simp only [if_pos c, if_pos (h3 c), ChkOk.fst h4]
  ·simp only [if_neg c, ChkOk.fst h4]
theorem ChkOk.app : ∀ (R P S : List MV), ChkOk P (R ++ S) ↔ ChkOk P R ∧ ChkOk (P ++ R) S
 | [], P, S => by simp [ChkOk]
 | m :: R, P, S => by
  simp only [List.cons_append, ChkOk, ChkOk.app R (P ++ [m]) S, List.append_assoc, List.singleton_append]
  constructor
  ·rintro ⟨a, b, c, d, e⟩; exact ⟨⟨a, b, c, d⟩, e⟩
  ·rintro ⟨⟨a, b, c, d⟩, e⟩; exact ⟨a, b, c, d, e⟩
theorem ChkOk.good : ∀ {R P : List MV}, ChkOk P R → ∀ y ∈ R, onem y = 0
 | [], _, _, y, hy => by simp at hy
 | m :: R, P, h, y, hy => by
  rcases List.mem_cons.1 hy with e | e
  ·rw [e]; exact h.2.1
  ·exact ChkOk.good h.2.2.2 y e
theorem ChkOk.seq : ∀ {R P : List MV}, ChkOk P R → ∀ i : Nat, (h : i < R.length) → (R[i]).f0 = (P.length : Int) + (i : Int) + 1
 | [], _, _, i, h => by simp at h
 | m :: R, P, h, 0, _ => by simpa using h.1
 | m :: R, P, h, i + 1, hi => by
  have := ChkOk.seq h.2.2.2 i (by simpa using hi); simp only [List.getElem_cons_succ, this, List.length_append, List.length_singleton]
  omega
theorem Checkv_ok (l : List MV) : (Checkv l).2 = 0 ↔ (l.length ≤ 2000 ∧ ChkOk [] l) := by
 unfold Checkv
 by_cases c : (l.length : Int) > 2000
 ·rw [if_pos c]
  constructor
  ·intro h; exact absurd h (by decide)
  ·intro h; omega
 ·rw [if_neg c, chkv_ok]
  constructor
  ·intro h; exact ⟨by omega, h⟩
  ·exact fun h => h.2
theorem Checkv_fst {l : List MV} (h : (Checkv l).2 = 0) : Checkv l = (-1, 0) := by
 obtain ⟨h1, h2⟩ := (Checkv_ok l).1 h
 unfold Checkv
 rw [if_neg (by omega), h2.fst]
theorem rdv_seq {l : List MV} (h : ChkOk [] l) {n : Int} (h0 : 1 ≤ n) (h1 : n ≤ (l.length : Int)) : (rdv l (n - 1)).f0 = n := by
 obtain ⟨j, hj⟩ : ∃ j : Nat, n - 1 = (j : Int) := ⟨(n - 1).toNat, by omega⟩; have hlt : j < l.length := by omega
 have e : rdv l (n - 1) = l[j] := by rw [hj]; simp [rdv, rd_T23, List.getD_eq_getElem?_getD, hlt]
 rw [e, h.seq j hlt]
 simp; omega
end Go.Proofs.YtegpappenmhndaaDoor.M
end
section
namespace Go.Proofs.YtegpappenmhndaaDoor.M
open Go.RowKit Go.Proofs.YtegpappenmhndaaDoorW.PrintWords Go.Proofs.YtegpappenmhndaaDoorW.PrintLast Go.Proofs.YtegpappenmhndaaDoorW.PrintMore
attribute [local go_sem] max2_int min2_int max_two min_two max_three min_three max_four min_four
set_option linter.unusedVariables false
set_option linter.unusedSimpArgs false
def gtm (m y : Mv) : Bool := decide (m.f1 < y.f1) || (y.f1 == m.f1 && decide (m.f0 < y.f0))
def refpos (p : Nat → Bool) : Nat → Nat
 | 0 => 0
 | k + 1 => if p k = true then refpos p k else k + 1
theorem refpos_le (p : Nat → Bool) : ∀ n, refpos p n ≤ n
 | 0 => Nat.le_refl _
 | n + 1 => by
  unfold refpos
  have := refpos_le p n
  split <;> omega
def insr (o : List Mv) (m : Mv) : List Mv := o.take (refpos (fun i => gtm m (mvAt o i)) o.length) ++ m :: o.drop (refpos (fun i => gtm m (mvAt o i)) o.length)
def F18.f (l0 : List Mv) : Option (List Mv) := if l0.length ≤ 1000000 then some (l0.foldl insr []) else none
theorem insr_length (m : Mv) (l : List Mv) : (insr l m).length = l.length + 1 := by
 unfold insr
 rw [List.length_append, List.length_cons, List.length_take, List.length_drop]
 omega
theorem insr_pos {m : Mv} {o : List Mv} {pos : Nat} (h : refpos (fun i => gtm m (mvAt o i)) o.length = pos) : insr o m = o.take pos ++ m :: o.drop pos := by
 unfold insr
 rw [h]
theorem reads_below {w w' : World} {A : Option Addr} {n : Nat} {xs : List Mv} (h : Kd.C k23 w A n xs) (hb : Below w.heap.size w w') : ReadsRow (k23.K w) k23.sz w' A n xs := by
 obtain ⟨h1, h2, h3⟩ := h; refine ⟨h1, h2, fun hp => ?_⟩; obtain ⟨ad, e, hc⟩ := h3 hp; refine ⟨ad, e, fun j p hj => ?_⟩; obtain ⟨c, hcl, hk, hcc⟩ := hc j p hj; exact ⟨c, hcl, hk, fun i u hu => (hb.cell (World.block_lt_of_cell? w _ (hcc i u hu))).trans (hcc i u hu)⟩
theorem reads_box {w : World} {b : Nat} {m : Mv} (h : w.heap[b]? = some (.cells #[.int .i64 m.f0, .int .i64 m.f1, .string m.f2, .int .i64 m.f3, .int .i64 m.f4, .int .i64 m.f5, .string m.f6, .int .i64 m.f7] 23 (0, 0))) : ReadsRow (k23.K w) k23.sz w (some ⟨b, 0, none⟩) 1 [m] := by
 refine ⟨rfl, by omega, fun _ => ⟨_, rfl, fun j p hj => ?_⟩⟩; have hj0 : j = 0 := by have := (List.getElem?_eq_some_iff.1 hj).1; simpa using this
 subst hj0; obtain rfl : m = p := by simpa using hj
 refine ⟨_, rfl, mv_K w m, fun i u hu => ?_⟩; rw [Addr.add_lit]; refine (blk_cell h _).trans ?_
 simpa using hu
theorem nameA {P : Program} {md : Region.Mode} {ops : Array Oper} {Q : Exit → Act → World → Prop} {S : World → Prop} {ds : List Nat} {fuel : Nat} {l : Array Bool} {a : Act} {w : World} (h : ∀ a0, a = a0 → wpAnyLast P md ops Q S ds fuel l a0 w) : wpAnyLast P md ops Q S ds fuel l a w := h a rfl
set_option maxHeartbeats 8000000 in
set_option maxRecDepth 100000 in
theorem F18.calls (A0 : Option Addr) (c0 : Nat) (l0 : List Mv) (r : List Mv) (w : World) (hr0 : Kd.C k23 w A0 l0.length l0) (hc0 : l0.length ≤ c0) (h : F18.f l0 = some r) :
  Calls Tryd.prog 18 #[.slice A0 l0.length c0] w fun e w' => ∃ v0_ : Value, e = .returned v0_ ∧ Kd.R k23 23 w' w.heap.size (fun _ => True) v0_ r ∧ Below w.heap.size w w' := by
 have HR0 := Aside0.mk hr0; have HC0 := Aside0.mk hc0; clear hr0 hc0
 unfold F18.f at h
 by_cases cN : l0.length ≤ 1000000
 rotate_left
 ·rw [if_neg cN] at h; cases h
 rw [if_pos cN] at h; have HL := Aside0.mk (Option.some.inj h); have HN := Aside0.mk cN; clear h cN; have HB := Aside0.mk (Below.refl w.heap.size w); go_enter Tryd.func18, Tryd.ntmps18
 go_wp2
 go_loopg [3, 4] l0.length (fun kq v3 v4 w' => ∃ (j : Nat) (o : List Mv), v4 = .int .i64 (j : Int) ∧ Aside0 (j + kq = l0.length) ∧ Aside0 ((l0.drop j).foldl insr o = r) ∧ Aside0 (o.length = j) ∧ Aside0 (Kd.R k23 23 w' w.heap.size (fun _ => True) v3 o) ∧ Aside0 (Below w.heap.size w w'))
 case atStart => exact ⟨0, [], rfl, ⟨by omega⟩, HL, ⟨rfl⟩, ⟨Kd.R_nil _ _ _ _ _⟩, HB⟩
 case round =>
  clear HL HB; obtain ⟨j, o, rfl, HJ, H, HO1, HO, HB⟩ := hrel
  cases gk with
  | zero =>
   have hj0 : l0.drop j = [] := List.drop_eq_nil_of_le (by have := HJ.out; omega); have H1 := H.out; rw [hj0] at H1; simp only [List.foldl_nil] at H1; subst H1; have hjb : decide ((j : Int) < (l0.length : Int)) = false := decide_eq_false (by have := HJ.out; omega); have hjn : ¬ j < l0.length := by have := HJ.out; omega
   have hjd : decide (j < l0.length) = false := decide_eq_false hjn; clear hj0
   go_wp2
   go_ret
   exact ⟨u3, rfl, HO.out, HB.out⟩
  | succ k1 =>
   have hj : j < l0.length := by have := HJ.out; omega
   have hjb : decide ((j : Int) < (l0.length : Int)) = true := decide_eq_true (by omega); have hjd : decide (j < l0.length) = true := decide_eq_true hj; have hj2 : (j : Int) + 1 ≤ 1000001 := by have := HN.out; omega
   have p1 : 0 ≤ (j : Int) := by omega
   have qj : (j : Int) < (l0.length : Int) := by omega
   have HMC := Aside0.mk (at_T23 HR0.out (j : Int) p1 qj); have H1 := H.out; clear H; rw [drop_mv hj] at H1; simp only [List.foldl_cons] at H1; obtain ⟨m, hm⟩ : ∃ m, rd_T23 l0 (j : Int) = m := ⟨_, rfl⟩; rw [hm] at H1 HMC; clear hm hj; replace p1 := eq_true p1; replace qj := eq_true qj; have H' := Aside0.mk H1; clear H1; obtain ⟨A2, c2, rfl, hcc, hC⟩ := Kd.R_reads HO.out; have HCC := Aside0.mk hcc; have HOn : Aside0 (o.length ≤ 1000000) := ⟨by have := HO1.out; have := HN.out; omega⟩; have HCo := Aside0.mk hC; obtain ⟨A0', rfl⟩ : ∃ ad, A0 = some ad := by obtain ⟨ad, e, _⟩ := HMC.out; exact ⟨ad, e⟩
   clear hcc hC; obtain ⟨pos, hpos⟩ : ∃ q, refpos (fun i => gtm m (mvAt o i)) o.length = q := ⟨_, rfl⟩; have HP := Aside0.mk hpos; have HP0 := Aside0.mk hpos; clear hpos
   go_upto_block 2 with (fail)
   go_cut [5] (fun v5 wc => v5 = .int .i64 (pos : Int) ∧ Aside0 (Kd.C k23 wc A2 o.length o) ∧ Aside0 (Below w.heap.size w wc))
   case first =>
    go_wp2
    go_loopg [5] o.length (fun kq v5 w' => v5 = .int .i64 (kq : Int) ∧ Aside0 (kq ≤ o.length) ∧ Aside0 (refpos (fun i => gtm m (mvAt o i)) kq = pos) ∧ Aside0 (Kd.C k23 w' A2 o.length o) ∧ Aside0 (Below w.heap.size w w'))
    case atStart => exact ⟨rfl, ⟨Nat.le_refl _⟩, HP, HCo, HB⟩
    case round =>
     clear HCo HB HO; obtain ⟨rfl, HK, HPk, HCo, HB⟩ := hrel; obtain ⟨am, e1, hi0, hi1, hi2, hi3, hi4, hi5, hi6, hi7⟩ := HMC.out
     cases e1
     simp only [Int.toNat_natCast] at hi0 hi1 hi2 hi3 hi4 hi5 hi6 hi7; replace hi0 := (HB.out.cell (World.block_lt_of_cell? w _ hi0)).trans hi0; replace hi1 := (HB.out.cell (World.block_lt_of_cell? w _ hi1)).trans hi1; replace hi2 := (HB.out.cell (World.block_lt_of_cell? w _ hi2)).trans hi2; replace hi3 := (HB.out.cell (World.block_lt_of_cell? w _ hi3)).trans hi3; replace hi4 := (HB.out.cell (World.block_lt_of_cell? w _ hi4)).trans hi4; replace hi5 := (HB.out.cell (World.block_lt_of_cell? w _ hi5)).trans hi5; replace hi6 := (HB.out.cell (World.block_lt_of_cell? w _ hi6)).trans hi6; replace hi7 := (HB.out.cell (World.block_lt_of_cell? w _ hi7)).trans hi7
     by_cases cx : ∃ k2, gk = k2 + 1 ∧ gtm m (mvAt o k2) = true
     ·obtain ⟨k2, rfl, cg⟩ := cx; have HP2 : Aside0 (refpos (fun i => gtm m (mvAt o i)) k2 = pos) := ⟨by have h1 := HPk.out; simpa [refpos, cg] using h1⟩; have hg0 : decide (0 < (k2 : Int) + 1) = true := decide_eq_true (by omega); have hg1 : (0 : Int) < (k2 : Int) + 1 := by omega
      have he : (k2 : Int) + 1 - 1 = (k2 : Int) := by omega
      have q0 : 0 ≤ (k2 : Int) := by omega
      have q1 : (k2 : Int) < (o.length : Int) := by have := HK.out; omega
      have q2 : (k2 : Int) + 1 ≤ 1000001 := by have := HK.out; have := HOn.out; omega
      obtain ⟨y, hy⟩ : ∃ y, mvAt o k2 = y := ⟨_, rfl⟩; rw [hy] at cg; obtain ⟨ay, ey, hy0, hy1, hy2, hy3, hy4, hy5, hy6, hy7⟩ := at_T23 HCo.out (k2 : Int) q0 q1
      cases ey
      simp only [Int.toNat_natCast] at hy0 hy1 hy2 hy3 hy4 hy5 hy6 hy7; rw [show rd_T23 o (k2 : Int) = y from hy] at hy0 hy1 hy2 hy3 hy4 hy5 hy6 hy7; clear hy; replace q0 := eq_true q0; replace q1 := eq_true q1
      unfold gtm at cg
      by_cases cy : m.f1 < y.f1
      ·have cyb : decide (m.f1 < y.f1) = true := decide_eq_true cy; clear cg
       go_wp2
       repeat (go_quiet (fail); try go_wp2)
       go_roundg k2
       case measure => omega
       case rel => exact ⟨by go_num, ⟨by have := HK.out; omega⟩, HP2, ⟨HCo.out⟩, ⟨pw_below_drewN HB.out _⟩⟩
      ·have cyb : decide (m.f1 < y.f1) = false := decide_eq_false cy; rw [cyb, Bool.false_or, Bool.and_eq_true] at cg; obtain ⟨ce, cl⟩ := cg; clear cy
       go_wp2
       repeat (go_quiet (fail); try go_wp2)
       go_roundg k2
       case measure => omega
       case rel => exact ⟨by go_num, ⟨by have := HK.out; omega⟩, HP2, ⟨HCo.out⟩, ⟨pw_below_drewN HB.out _⟩⟩
     ·have hpk : pos = gk := by
       have h1 := HPk.out
       cases gk with
       | zero => exact h1.symm
       | succ k2 =>
        have hf : gtm m (mvAt o k2) = false := by
         cases hc : gtm m (mvAt o k2) with
         | false => rfl
         | true => exact absurd ⟨k2, rfl, hc⟩ cx
        simpa [refpos, hf] using h1.symm
      subst hpk
      by_cases cz : pos = 0
      ·have hg0 : decide (0 < (pos : Int)) = false := decide_eq_false (by omega); have hg1 : ¬ (0 : Int) < (pos : Int) := by omega
       have hg2 : decide (0 < pos) = false := decide_eq_false (by omega); clear cz cx
       go_wp2
       repeat (go_quiet (fail); try go_wp2)
       go_meet
       case rel => exact ⟨rfl, ⟨HCo.out⟩, ⟨pw_below_drewN HB.out _⟩⟩
      ·obtain ⟨k2, hk2⟩ : ∃ k2, pos = k2 + 1 := ⟨pos - 1, by omega⟩
       have hf : gtm m (mvAt o k2) = false := by
        cases hc : gtm m (mvAt o k2) with
        | false => rfl
        | true => exact absurd ⟨k2, hk2, hc⟩ cx
       have hg0 : decide (0 < (pos : Int)) = true := decide_eq_true (by omega); have hg1 : (0 : Int) < (pos : Int) := by omega
       have hg2 : decide (0 < pos) = true := decide_eq_true (by omega); have he : (pos : Int) - 1 = (k2 : Int) := by omega
       have q0 : 0 ≤ (k2 : Int) := by omega
       have q1 : (k2 : Int) < (o.length : Int) := by have := HK.out; omega
       have q2 : (pos : Int) ≤ 1000001 := by have := HK.out; have := HOn.out; omega
       obtain ⟨y, hy⟩ : ∃ y, mvAt o k2 = y := ⟨_, rfl⟩; rw [hy] at hf; obtain ⟨ay, ey, hy0, hy1, hy2, hy3, hy4, hy5, hy6, hy7⟩ := at_T23 HCo.out (k2 : Int) q0 q1
       cases ey
       simp only [Int.toNat_natCast] at hy0 hy1 hy2 hy3 hy4 hy5 hy6 hy7; rw [show rd_T23 o (k2 : Int) = y from hy] at hy0 hy1 hy2 hy3 hy4 hy5 hy6 hy7; clear hy; replace q0 := eq_true q0; replace q1 := eq_true q1; clear cx cz hk2
       unfold gtm at hf
       rw [Bool.or_eq_false_iff] at hf; obtain ⟨hf1, hf2⟩ := hf
       by_cases ce : y.f1 = m.f1
       ·have ceb : (y.f1 == m.f1) = true := beq_iff_eq.mpr ce; rw [ceb, Bool.true_and] at hf2; clear ce
        go_wp2
        repeat (go_quiet (fail); try go_wp2)
        go_meet
        case rel => exact ⟨rfl, ⟨HCo.out⟩, ⟨pw_below_drewN HB.out _⟩⟩
       ·have ceb : (y.f1 == m.f1) = false := beq_eq_false_iff_ne.mpr ce; clear ce hf2
        go_wp2
        repeat (go_quiet (fail); try go_wp2)
        go_meet
        case rel => exact ⟨rfl, ⟨HCo.out⟩, ⟨pw_below_drewN HB.out _⟩⟩
   case rest =>
    have HPo := Aside0.mk (show refpos (fun i => gtm m (mvAt o i)) o.length = pos from HP0.out); have HK : Aside0 (pos ≤ o.length) := ⟨by rw [← HP0.out]; exact refpos_le _ _⟩; clear HCo HB HO HP; obtain ⟨rfl, HCo, HB⟩ := hcut; obtain ⟨am, e1, hi0, hi1, hi2, hi3, hi4, hi5, hi6, hi7⟩ := HMC.out
    cases e1
    simp only [Int.toNat_natCast] at hi0 hi1 hi2 hi3 hi4 hi5 hi6 hi7; replace hi0 := (HB.out.cell (World.block_lt_of_cell? w _ hi0)).trans hi0; replace hi1 := (HB.out.cell (World.block_lt_of_cell? w _ hi1)).trans hi1; replace hi2 := (HB.out.cell (World.block_lt_of_cell? w _ hi2)).trans hi2; replace hi3 := (HB.out.cell (World.block_lt_of_cell? w _ hi3)).trans hi3; replace hi4 := (HB.out.cell (World.block_lt_of_cell? w _ hi4)).trans hi4; replace hi5 := (HB.out.cell (World.block_lt_of_cell? w _ hi5)).trans hi5; replace hi6 := (HB.out.cell (World.block_lt_of_cell? w _ hi6)).trans hi6; replace hi7 := (HB.out.cell (World.block_lt_of_cell? w _ hi7)).trans hi7
    go_wp2
    refine nameW ?_; intro W hW; have HBW : Aside0 (Below w.heap.size w W) := ⟨by rw [← hW]; exact HB.out⟩; have HCoW : Aside0 (Kd.C k23 W A2 o.length o) := ⟨by rw [← hW]; exact HCo.out⟩; have hj0 : W.cell? (A0'.add (j * 8)) = some (.int .i64 m.f0) := by rw [← hW]; exact hi0
    have hj1 : W.cell? ⟨(A0'.add (j * 8)).block, (A0'.add (j * 8)).off + 1, none⟩ = some (.int .i64 m.f1) := by rw [← hW]; exact hi1
    have hj2 : W.cell? ⟨(A0'.add (j * 8)).block, (A0'.add (j * 8)).off + 2, none⟩ = some (.string m.f2) := by rw [← hW]; exact hi2
    have hj3 : W.cell? ⟨(A0'.add (j * 8)).block, (A0'.add (j * 8)).off + 3, none⟩ = some (.int .i64 m.f3) := by rw [← hW]; exact hi3
    have hj4 : W.cell? ⟨(A0'.add (j * 8)).block, (A0'.add (j * 8)).off + 4, none⟩ = some (.int .i64 m.f4) := by rw [← hW]; exact hi4
    have hj5 : W.cell? ⟨(A0'.add (j * 8)).block, (A0'.add (j * 8)).off + 5, none⟩ = some (.int .i64 m.f5) := by rw [← hW]; exact hi5
    have hj6 : W.cell? ⟨(A0'.add (j * 8)).block, (A0'.add (j * 8)).off + 6, none⟩ = some (.string m.f6) := by rw [← hW]; exact hi6
    have hj7 : W.cell? ⟨(A0'.add (j * 8)).block, (A0'.add (j * 8)).off + 7, none⟩ = some (.int .i64 m.f7) := by rw [← hW]; exact hi7
    clear hi0 hi1 hi2 hi3 hi4 hi5 hi6 hi7 hW; have hn1 : pos ≤ o.length := HK.out; have hn2 : pos ≤ c2 := Nat.le_trans HK.out HCC.out; have hno : (o.length : Int) ≤ 1000000 := by have := HOn.out; omega
    have htl : (o.take pos).length = pos := by rw [List.length_take]; omega
    have hdl : (o.drop pos).length = o.length - pos := List.length_drop; have HCt := Aside0.mk (Kd.C_take HCoW.out hn1); have HCd := Aside0.mk (Kd.C_drop (m := pos) (c := c2) HCoW.out hn1 HCC.out); refine start_ (n := 16) (S := fun w' => Below W.heap.size W w') (ds := []) (bq 16 0) (by kernel_rfl) rfl rfl (below_drew (Below.refl W.heap.size W)) (fun hHeld => ?_); refine pure_ (i := 1) (N := some 61) (v := ?_) (a' := ?_) (bq 16 2) rfl rfl (by kernel_rfl) (fun _ _ _ h => h) (Or.inl ⟨by rfl, ?_⟩) ?_ ?_; rotate_left
    ·intro w'; go_simp; with_reducible rfl
    rotate_left
    ·exact cbb2_0
    refine pure_ (i := 2) (N := some 62) (v := ?_) (a' := ?_) (bq 16 6) rfl rfl (by kernel_rfl) (fun _ _ _ h => h) (Or.inl ⟨by rfl, ?_⟩) ?_ ?_; rotate_left
    ·intro w'; go_simp; with_reducible rfl
    rotate_left
    ·exact cbb2_0
    refine pure_ (i := 3) (N := some 63) (v := ?_) (a' := ?_) (bq 16 14) rfl rfl (by kernel_rfl) (fun _ _ _ h => h) (Or.inl ⟨by rfl, ?_⟩) ?_ ?_; rotate_left
    ·intro w'; go_simp; with_reducible rfl
    rotate_left
    ·exact cbb2_0
    refine pure_ (i := 5) (N := some 65) (v := ?_) (a' := ?_) (bq 16 46) rfl rfl (by kernel_rfl) (fun _ _ _ h => h) (Or.inl ⟨by rfl, ?_⟩) ?_ ?_; rotate_left
    ·intro w'; go_simp; with_reducible rfl
    rotate_left
    ·exact cbb2_0
    refine pure_ (i := 6) (N := some 66) (v := ?_) (a' := ?_) (bq 16 110) rfl rfl (by kernel_rfl) (fun _ _ _ h => h) (Or.inl ⟨by rfl, ?_⟩) ?_ ?_; rotate_left
    ·intro w'; go_simp; with_reducible rfl
    rotate_left
    ·exact cbb2_0
    refine pure_ (i := 7) (N := some 67) (v := ?_) (a' := ?_) (bq 16 238) rfl rfl (by kernel_rfl) (fun _ _ _ h => h) (Or.inl ⟨by rfl, ?_⟩) ?_ ?_; rotate_left
    ·intro w'; go_simp; with_reducible rfl
    rotate_left
    ·exact cbb2_0
    refine take_ (i := 8) (N := some 68) (v := ?_) (a' := ?_) (bq 16 494) rfl rfl (by kernel_rfl) (fun _ _ _ h => h) (Or.inl ⟨by rfl, ?_⟩) hHeld ?_ ?_; rotate_left
    ·rintro w' s0; have k0 := (s0.cell (World.block_lt_of_cell? W _ hj0)).trans hj0; have k1 := (s0.cell (World.block_lt_of_cell? W _ hj1)).trans hj1; have k2 := (s0.cell (World.block_lt_of_cell? W _ hj2)).trans hj2; have k3 := (s0.cell (World.block_lt_of_cell? W _ hj3)).trans hj3; have k4 := (s0.cell (World.block_lt_of_cell? W _ hj4)).trans hj4; have k5 := (s0.cell (World.block_lt_of_cell? W _ hj5)).trans hj5; have k6 := (s0.cell (World.block_lt_of_cell? W _ hj6)).trans hj6; have k7 := (s0.cell (World.block_lt_of_cell? W _ hj7)).trans hj7; go_simp; with_reducible rfl
    rotate_left
    ·exact cbb2_0
    refine pure_ (i := 11) (N := some 71) (v := ?_) (a' := ?_) (bq 16 2542) rfl rfl (by kernel_rfl) (fun _ _ _ h => h) (Or.inl ⟨by rfl, ?_⟩) ?_ ?_; rotate_left
    ·intro w'; go_simp; with_reducible rfl
    rotate_left
    ·exact cbb2_0
    refine pure_ (i := 12) (N := some 72) (v := ?_) (a' := ?_) (bq 16 6638) rfl rfl (by kernel_rfl) (fun _ _ _ h => h) (Or.inl ⟨by rfl, ?_⟩) ?_ ?_; rotate_left
    ·intro w'; go_simp; with_reducible rfl
    rotate_left
    ·exact cbb2_0
    refine pure_ (i := 13) (N := some 73) (v := ?_) (a' := ?_) (bq 16 14830) rfl rfl (by kernel_rfl) (fun _ _ _ h => h) (Or.inl ⟨by rfl, ?_⟩) ?_ ?_; rotate_left
    ·intro w'; go_simp; with_reducible rfl
    rotate_left
    ·exact cbb2_0
    have HS := Aside0.mk hHeld; generalize W.drew = w0 at hHeld HS ⊢; refine nameA ?_; intro a0 ha0; refine join_ (σ := Value × Value × Nat) 3 (bq 16 15359) (fun (s : Value × Value × Nat) => [(60, s.1), (64, s.2.1), (69, .slice (some ⟨s.2.2, 0, none⟩) 1 1)]) (fun (s : Value × Value × Nat) w' => k23.R 23 w' W.heap.size (fun k => k ≠ s.2.2) s.2.1 (o.take pos) ∧ w'.heap[s.2.2]? = some (.cells #[.int .i64 m.f0, .int .i64 m.f1, .string m.f2, .int .i64 m.f3, .int .i64 m.f4, .int .i64 m.f5, .string m.f6, .int .i64 m.f7] 23 (0, 0)) ∧ W.heap.size ≤ s.2.2 ∧ Below W.heap.size W w') ?_ ?_; rotate_left
    ·intro hj; rw [← ha0]; refine two_ (i := 0) (j := 9) (Ni := some 60) (Nj := some 69) (bq 16 14831) (bq 16 15342) rfl rfl rfl rfl (by kernel_rfl) (by decide) (by decide) (fun K hK => ?_) (fun K hK => ?_)
     ·-- the literal first
      refine Kd.R_lit_step k23 (w0 := W) W.heap.size 23 (by rfl) (N := 60) rfl (xs := []) (inner := []) (okp := fun _ => False) (ok := (fun _ => True)) pso2_6 ⟨rfl, fun j q hq => by simp at hq⟩ (fun _ hk => hk.elim) trivial HS.out HS.out.size (by simp) ?_; intro v60 w60 ho hb hg hat; refine hK.out _ _ hb (fun _ => ?_); clear hK K; have H60 := Aside0.mk ho; have HS := Aside0.mk hb; clear ho hb hg hat; refine norm_ (a' := ?_) ?_ ?_; rotate_left
      ·show Act.put _ (some 60) _ = _; simp only [Act.put, List.setIfInBounds_toArray, List.set_cons_zero, List.set_cons_succ, i64_w, i32_w]
       rfl
      refine two_ (i := 4) (j := 9) (Ni := some 64) (Nj := some 69) (bq 16 14847) (bq 16 15343) rfl rfl rfl rfl (by kernel_rfl) (by decide) (by decide) (fun K hK => ?_) (fun K hK => ?_)
      ·refine Kd.R_append_rows_step k23 (w0 := W) (Rr := k23.K W) W.heap.size (by rfl) (.tmp 60) (.tmp 63) 25 23 (.agg #[(.int .i64 0), (.int .i64 0), (.string ⟨#[]⟩), (.int .i64 0), (.int .i64 0), (.int .i64 0), (.string ⟨#[]⟩), (.int .i64 0)]) 80 rfl Tryd.underlying25 info23 rfl (by decide) (by omega) v60 [] (o.take pos) A2 (o.take pos).length c2 (fun _ => True) (fun _ => False) rfl (by rw [htl]; rfl) H60.out ?hR (fun y cs hy => mv_flat _ _ _ _ _ (k23.K_below HS.out hy)) (fun _ hk => hk.elim) (fun _ _ => trivial) HS.out HS.out.size (by simp only [List.length_nil]; rw [htl]; omega) ?_
       case hR => exact reads_below HCt.out HS.out
       intro v64 w64 ho hb hg hat; refine hK.out _ _ hb (fun _ => ?_); clear hK K; have H64 := Aside0.mk ho; have HS := Aside0.mk hb; clear ho hb hg hat; refine norm_ (a' := ?_) ?_ ?_; rotate_left
       ·show Act.put _ (some 64) _ = _; simp only [Act.put, List.setIfInBounds_toArray, List.set_cons_zero, List.set_cons_succ, i64_w, i32_w]
        rfl
       refine one_ (i := 9) (N := some 69) (bq 16 15359) rfl rfl (by kernel_rfl) (by decide) (fun K hK => ?_); refine value_ (w1 := w64.alloc (.cells #[.int .i64 m.f0, .int .i64 m.f1, .string m.f2, .int .i64 m.f3, .int .i64 m.f4, .int .i64 m.f5, .string m.f6, .int .i64 m.f7] 23)) (v := .slice (some ⟨w64.heap.size, 0, none⟩) 1 1) (by rfl) rfl pso2_6 ?_; refine hK.out _ _ (HS.out.alloc HS.out.size _) (fun _ => ?_); clear hK K; have HS9 := Aside0.mk (HS.out.alloc HS.out.size (.cells #[.int .i64 m.f0, .int .i64 m.f1, .string m.f2, .int .i64 m.f3, .int .i64 m.f4, .int .i64 m.f5, .string m.f6, .int .i64 m.f7] 23)); refine norm_ (a' := putAll a0 ((fun (s : Value × Value × Nat) => [(60, s.1), (64, s.2.1), (69, .slice (some ⟨s.2.2, 0, none⟩) 1 1)]) (v60, v64, w64.heap.size))) (by rw [← ha0]; rfl) (hj (v60, v64, w64.heap.size) _ ⟨?_, blk_new w64 _, HS.out.size, HS9.out⟩); exact Kd.R_alloc (Kd.R_mono (ok' := fun k => k ≠ w64.heap.size) (Kd.R_bound H64.out) (fun k hk e => by have := hk.2.2.1; omega)) _
      ·refine value_ (w1 := w60.alloc (.cells #[.int .i64 m.f0, .int .i64 m.f1, .string m.f2, .int .i64 m.f3, .int .i64 m.f4, .int .i64 m.f5, .string m.f6, .int .i64 m.f7] 23)) (v := .slice (some ⟨w60.heap.size, 0, none⟩) 1 1) (by rfl) rfl pso2_6 ?_; refine hK.out _ _ (HS.out.alloc HS.out.size _) (fun _ => ?_); clear hK K; have HB9 := Aside0.mk (blk_new w60 (.cells #[.int .i64 m.f0, .int .i64 m.f1, .string m.f2, .int .i64 m.f3, .int .i64 m.f4, .int .i64 m.f5, .string m.f6, .int .i64 m.f7] 23)); have HS9 := Aside0.mk (HS.out.alloc HS.out.size (.cells #[.int .i64 m.f0, .int .i64 m.f1, .string m.f2, .int .i64 m.f3, .int .i64 m.f4, .int .i64 m.f5, .string m.f6, .int .i64 m.f7] 23)); have H60' := Aside0.mk (Kd.R_alloc (Kd.R_mono (ok' := fun k => k ≠ w60.heap.size) (Kd.R_bound H60.out) (fun k hk e => by have := hk.2.2.1; omega)) (.cells #[.int .i64 m.f0, .int .i64 m.f1, .string m.f2, .int .i64 m.f3, .int .i64 m.f4, .int .i64 m.f5, .string m.f6, .int .i64 m.f7] 23)); have HL9 := Aside0.mk HS.out.size; obtain ⟨b9, hb9⟩ : ∃ b, w60.heap.size = b := ⟨_, rfl⟩; generalize w60.alloc (.cells #[.int .i64 m.f0, .int .i64 m.f1, .string m.f2, .int .i64 m.f3, .int .i64 m.f4, .int .i64 m.f5, .string m.f6, .int .i64 m.f7] 23) = w69 at HB9 HS9 H60' ⊢; rw [hb9] at HB9 H60' HL9 ⊢; clear HS hb9 H60; have HS := HS9; clear HS9; refine norm_ (a' := ?_) ?_ ?_; rotate_left
       ·show Act.put _ (some 69) _ = _; simp only [Act.put, List.setIfInBounds_toArray, List.set_cons_zero, List.set_cons_succ, i64_w, i32_w]
        rfl
       refine one_ (i := 4) (N := some 64) (bq 16 15359) rfl rfl (by kernel_rfl) (by decide) (fun K hK => ?_); refine Kd.R_append_rows_step k23 (w0 := W) (Rr := k23.K W) W.heap.size (by rfl) (.tmp 60) (.tmp 63) 25 23 (.agg #[(.int .i64 0), (.int .i64 0), (.string ⟨#[]⟩), (.int .i64 0), (.int .i64 0), (.int .i64 0), (.string ⟨#[]⟩), (.int .i64 0)]) 80 rfl Tryd.underlying25 info23 rfl (by decide) (by omega) v60 [] (o.take pos) A2 (o.take pos).length c2 (fun k => k ≠ b9) (fun _ => False) rfl (by rw [htl]; rfl) H60'.out ?hR (fun y cs hy => mv_flat _ _ _ _ _ (k23.K_below HS.out hy)) (fun _ hk => hk.elim) (fun k hk e => by have := blk_lt HB9.out; omega) HS.out HS.out.size (by simp only [List.length_nil]; rw [htl]; omega) ?_
       case hR => exact reads_below HCt.out HS.out
       intro v64 w64 ho hb hg hat; refine hK.out _ _ hb (fun _ => ?_); clear hK K; rw [List.nil_append] at ho; refine norm_ (a' := putAll a0 ((fun (s : Value × Value × Nat) => [(60, s.1), (64, s.2.1), (69, .slice (some ⟨s.2.2, 0, none⟩) 1 1)]) (v60, v64, b9))) (by rw [← ha0]; rfl) (hj (v60, v64, b9) _ ⟨ho, ?_, HL9.out, hb⟩); exact blk_grown HB9.out hg (fun e => H60'.out.1 _ e.symm rfl)
     ·-- the element first
      refine value_ (w1 := w0.alloc (.cells #[.int .i64 m.f0, .int .i64 m.f1, .string m.f2, .int .i64 m.f3, .int .i64 m.f4, .int .i64 m.f5, .string m.f6, .int .i64 m.f7] 23)) (v := .slice (some ⟨w0.heap.size, 0, none⟩) 1 1) (by rfl) rfl pso2_6 ?_; refine hK.out _ _ (HS.out.alloc HS.out.size _) (fun _ => ?_); clear hK K; have HB9 := Aside0.mk (blk_new w0 (.cells #[.int .i64 m.f0, .int .i64 m.f1, .string m.f2, .int .i64 m.f3, .int .i64 m.f4, .int .i64 m.f5, .string m.f6, .int .i64 m.f7] 23)); have HS9 := Aside0.mk (HS.out.alloc HS.out.size (.cells #[.int .i64 m.f0, .int .i64 m.f1, .string m.f2, .int .i64 m.f3, .int .i64 m.f4, .int .i64 m.f5, .string m.f6, .int .i64 m.f7] 23)); have HL9 := Aside0.mk HS.out.size; obtain ⟨b9, hb9⟩ : ∃ b, w0.heap.size = b := ⟨_, rfl⟩; generalize w0.alloc (.cells #[.int .i64 m.f0, .int .i64 m.f1, .string m.f2, .int .i64 m.f3, .int .i64 m.f4, .int .i64 m.f5, .string m.f6, .int .i64 m.f7] 23) = w69 at HB9 HS9 ⊢; rw [hb9] at HB9 HL9 ⊢; clear HS hb9; have HS := HS9; clear HS9; refine norm_ (a' := ?_) ?_ ?_; rotate_left
      ·show Act.put _ (some 69) _ = _; simp only [Act.put, List.setIfInBounds_toArray, List.set_cons_zero, List.set_cons_succ, i64_w, i32_w]
       rfl
      refine one_ (i := 0) (N := some 60) (bq 16 15343) rfl rfl (by kernel_rfl) (by decide) (fun K hK => ?_); refine Kd.R_lit_step k23 (w0 := W) W.heap.size 23 (by rfl) (N := 60) rfl (xs := []) (inner := []) (okp := fun _ => False) (ok := (fun k => k ≠ b9)) pso2_6 ⟨rfl, fun j q hq => by simp at hq⟩ (fun _ hk => hk.elim) (by have := blk_lt HB9.out; intro e; rw [e] at this; exact absurd this (Nat.lt_irrefl _)) HS.out HS.out.size (by simp) ?_; intro v60 w60 ho hb hg hat; refine hK.out _ _ hb (fun _ => ?_); clear hK K; have H60 := Aside0.mk ho; have HB9' := Aside0.mk (blk_grown HB9.out hg (by simp)); have HS' := Aside0.mk hb; clear ho hb hg hat HB9 HS; have HB9 := HB9'; have HS := HS'; clear HB9' HS'; refine norm_ (a' := ?_) ?_ ?_; rotate_left
      ·show Act.put _ (some 60) _ = _; simp only [Act.put, List.setIfInBounds_toArray, List.set_cons_zero, List.set_cons_succ, i64_w, i32_w]
       rfl
      refine one_ (i := 4) (N := some 64) (bq 16 15359) rfl rfl (by kernel_rfl) (by decide) (fun K hK => ?_); refine Kd.R_append_rows_step k23 (w0 := W) (Rr := k23.K W) W.heap.size (by rfl) (.tmp 60) (.tmp 63) 25 23 (.agg #[(.int .i64 0), (.int .i64 0), (.string ⟨#[]⟩), (.int .i64 0), (.int .i64 0), (.int .i64 0), (.string ⟨#[]⟩), (.int .i64 0)]) 80 rfl Tryd.underlying25 info23 rfl (by decide) (by omega) v60 [] (o.take pos) A2 (o.take pos).length c2 (fun k => k ≠ b9) (fun _ => False) rfl (by rw [htl]; rfl) H60.out ?hR (fun y cs hy => mv_flat _ _ _ _ _ (k23.K_below HS.out hy)) (fun _ hk => hk.elim) (fun k hk e => by have := blk_lt HB9.out; omega) HS.out HS.out.size (by simp only [List.length_nil]; rw [htl]; omega) ?_
      case hR => exact reads_below HCt.out HS.out
      intro v64 w64 ho hb hg hat; refine hK.out _ _ hb (fun _ => ?_); clear hK K; rw [List.nil_append] at ho; refine norm_ (a' := putAll a0 ((fun (s : Value × Value × Nat) => [(60, s.1), (64, s.2.1), (69, .slice (some ⟨s.2.2, 0, none⟩) 1 1)]) (v60, v64, b9))) (by rw [← ha0]; rfl) (hj (v60, v64, b9) _ ⟨ho, ?_, HL9.out, hb⟩); exact blk_grown HB9.out hg (fun e => H60.out.1 _ e.symm rfl)
    rintro ⟨v60, v64, b9⟩ w9 ⟨hr9, hb9, hl9, hs9⟩
    dsimp only at hr9 hb9 hl9
    have HR9 := Aside0.mk hr9; have HB9 := Aside0.mk hb9; have HS := Aside0.mk hs9; clear hr9 hb9 hl9 hs9; rw [← ha0]; clear ha0; refine norm_ (a' := ?_) ?_ ?_; rotate_left
    ·simp only [putAll, Act.put, List.setIfInBounds_toArray, List.set_cons_zero, List.set_cons_succ]
     rfl
    refine one_ (i := 10) (N := some 70) (bq 16 16383) rfl rfl (by kernel_rfl) (by decide) (fun K hK => ?_); refine Kd.R_append_rows_step k23 (w0 := W) (Rr := k23.K w9) W.heap.size (by rfl) (.tmp 64) (.tmp 69) 25 23 (.agg #[(.int .i64 0), (.int .i64 0), (.string ⟨#[]⟩), (.int .i64 0), (.int .i64 0), (.int .i64 0), (.string ⟨#[]⟩), (.int .i64 0)]) 80 rfl Tryd.underlying25 info23 rfl (by decide) (by omega) v64 (o.take pos) [m] (some ⟨b9, 0, none⟩) 1 1 (fun k => k ≠ b9) (fun _ => False) rfl rfl HR9.out (reads_box HB9.out) (fun y cs hy => mv_flat _ _ _ _ _ hy) (fun _ hk => hk.elim) (fun k hk e => by have := blk_lt HB9.out; omega) HS.out HS.out.size (by rw [htl]; omega) ?_; intro v70 w70 ho hb hg hat; refine hK.out _ _ hb (fun _ => ?_); clear hK K; have HLT : Aside0 (b9 < w70.heap.size) := ⟨Nat.lt_of_lt_of_le (blk_lt HB9.out) hg.size⟩; have HR9' := Aside0.mk ho; have HS9 := Aside0.mk hb; clear ho hb hg hat HS; refine norm_ (a' := ?_) ?_ ?_; rotate_left
    ·show Act.put _ (some 70) _ = _; simp only [Act.put, List.setIfInBounds_toArray, List.set_cons_zero, List.set_cons_succ, i64_w, i32_w]
     rfl
    refine one_ (i := 14) (N := some 74) (bq 16 32767) rfl rfl (by kernel_rfl) (by decide) (fun K hK => ?_); refine Kd.R_append_rows_step k23 (w0 := W) (Rr := k23.K W) W.heap.size (by rfl) (.tmp 70) (.tmp 73) 25 23 (.agg #[(.int .i64 0), (.int .i64 0), (.string ⟨#[]⟩), (.int .i64 0), (.int .i64 0), (.int .i64 0), (.string ⟨#[]⟩), (.int .i64 0)]) 80 rfl Tryd.underlying25 info23 rfl (by decide) (by omega) v70 (o.take pos ++ [m]) (o.drop pos) (if c2 = pos then A2 else Option.map (fun x => x.add (pos * 8)) A2) (o.drop pos).length (c2 - pos) (fun k => k ≠ b9) (fun _ => False) rfl (by rw [hdl]; rfl) HR9'.out ?hR (fun y cs hy => mv_flat _ _ _ _ _ (k23.K_below HS9.out hy)) (fun _ hk => hk.elim) ?hF HS9.out HS9.out.size (by simp only [List.length_append, List.length_singleton]; rw [htl, hdl]; omega) ?_
    case hR => exact reads_below HCd.out HS9.out
    case hF => exact fun k hk e => by have := HLT.out; omega
    intro v74 w74 ho hb hg hat; refine hK.out _ _ hb (fun _ => ?_); clear hK K; rw [List.append_assoc, List.singleton_append] at ho; have HR14 := Aside0.mk (Kd.R_mono (ok' := fun _ => True) ho (fun _ _ => trivial)); have HS14 := Aside0.mk hb; clear ho hb hg hat HR9' HS9; refine norm_ (a' := ?_) ?_ ?_; rotate_left
    ·show Act.put _ (some 74) _ = _; simp only [Act.put, List.setIfInBounds_toArray, List.set_cons_zero, List.set_cons_succ, i64_w, i32_w]
     rfl
    refine pure_ (i := 15) (N := some 3) (v := ?_) (a' := ?_) (bq 16 65535) rfl rfl (by kernel_rfl) (fun _ _ _ h => h) (Or.inl ⟨by rfl, ?_⟩) ?_ ?_; rotate_left
    ·intro w'; go_simp; with_reducible rfl
    rotate_left
    ·exact cbb2_0
    refine done_ (by kernel_rfl) ?_; go_simp
    repeat go_step
    all_goals
     go_roundg k1
     case measure => omega
     case rel => exact ⟨j + 1, insr o m, by go_num, ⟨by have := HJ.out; omega⟩, H', ⟨by rw [insr_length, HO1.out]⟩, ⟨Kd.R_lower (by rw [insr_pos HPo.out]; exact HR14.out) HBW.out.size⟩, ⟨below_then HBW.out HBW.out.size HS14.out⟩⟩
end Go.Proofs.YtegpappenmhndaaDoor.M
end
section
namespace Go.Proofs.YtegpappenmhndaaDoor.M
open Go.RowKit Go.Proofs.YtegpappenmhndaaDoorW.PrintWords Go.Proofs.YtegpappenmhndaaDoorW.PrintLast
set_option linter.unusedVariables false
set_option linter.unusedSimpArgs false
def aftP (m y : Mv) : Prop := m.f1 < y.f1 ∨ (m.f1 = y.f1 ∧ m.f0 < y.f0)
instance (m y : Mv) : Decidable (aftP m y) := by unfold aftP; infer_instance
theorem aft_iff (m y : Mv) : aft m y = true ↔ aftP m y := by simp [aft, aftP]
theorem gtm_iff (m y : Mv) : gtm m y = true ↔ aftP m y := by
 unfold gtm aftP
 rw [show (y.f1 == m.f1) = (m.f1 == y.f1) from Bool.beq_comm]
 simp
def leM (x y : Mv) : Prop := ¬ aftP y x
theorem leM_trans {x y z : Mv} (h : leM x y) (g : leM y z) : leM x z := by unfold leM aftP at *; omega
theorem leM_total (x y : Mv) : leM x y ∨ leM y x := by unfold leM aftP; omega
theorem aft_leM {m y : Mv} (h : aftP m y) : leM m y := by unfold leM aftP at *; omega
theorem mvAt_get (l : List Mv) (i : Nat) (h : i < l.length) : mvAt l i = l[i] := by
 simp [mvAt, rd_T23, List.getD_eq_getElem?_getD, h]
def At (p : Nat → Bool) (n k : Nat) : Prop := k ≤ n ∧ (∀ i, i < k → p i = false) ∧ ∀ i, k ≤ i → i < n → p i = true
theorem At.uniq {p : Nat → Bool} {n k j : Nat} (h : At p n k) (g : At p n j) : k = j := by
 rcases Nat.lt_trichotomy k j with c | c | c
 ·have h1 := h.2.2 k (Nat.le_refl _) (by have := g.1; omega); have h2 := g.2.1 k c; rw [h1] at h2; cases h2
 ·exact c
 ·have h1 := g.2.2 j (Nat.le_refl _) (by have := h.1; omega); have h2 := h.2.1 j c; rw [h1] at h2; cases h2
theorem bsr_at (p : Nat → Bool) (n : Nat) (hp : ∀ i j, i ≤ j → j < n → p i = true → p j = true) : ∀ (f lo hi : Nat), hi - lo ≤ f → lo ≤ hi → hi ≤ n → (∀ i, i < lo → p i = false) → (∀ i, hi ≤ i → i < n → p i = true) → At p n (bsr p f lo hi)
 | 0, lo, hi, h, h1, h2, h3, h4 => by
  obtain rfl : lo = hi := by omega
  exact ⟨h2, h3, h4⟩
 | f + 1, lo, hi, h, h1, h2, h3, h4 => by
  unfold bsr
  by_cases c : lo < hi
  ·rw [if_pos c]
   by_cases d : p ((lo + hi) / 2) = true
   ·rw [if_pos d]; exact bsr_at p n hp f lo ((lo + hi) / 2) (by omega) (by omega) (by omega) h3 (fun i hi1 hi2 => hp _ i hi1 hi2 d)
   ·rw [if_neg d]; refine bsr_at p n hp f ((lo + hi) / 2 + 1) hi (by omega) (by omega) h2 (fun i hi1 => ?_) h4
    cases e : p i with
    | false => rfl
    | true => exact absurd (hp i _ (by omega) (by omega) e) d
  ·rw [if_neg c]; obtain rfl : lo = hi := by omega
   exact ⟨h2, h3, h4⟩
theorem refpos_at (p : Nat → Bool) (n : Nat) (hp : ∀ i j, i ≤ j → j < n → p i = true → p j = true) : ∀ k, k ≤ n → (∀ i, k ≤ i → i < n → p i = true) → At p n (refpos p k)
 | 0, h, h1 => show At p n 0 from ⟨h, fun i hi => absurd hi (by omega), h1⟩
 | k + 1, h, h1 => by
  unfold refpos
  by_cases d : p k = true
  ·rw [if_pos d]; refine refpos_at p n hp k (by omega) (fun i h2 h3 => ?_)
   by_cases e : i = k
   ·rw [e]; exact d
   ·exact h1 i (by omega) h3
  ·rw [if_neg d]; refine ⟨h, fun i hi => ?_, h1⟩
   cases e : p i with
   | false => rfl
   | true => exact absurd (hp i k (by omega) (by omega) e) d
def insv' (o : List Mv) (m : Mv) : List Mv := o.takeWhile (fun y => ! aft m y) ++ m :: o.dropWhile (fun y => ! aft m y)
theorem tw_at (m : Mv) : ∀ (o : List Mv), o.Pairwise leM → ∃ k, At (fun i => aft m (mvAt o i)) o.length k ∧ o.takeWhile (fun y => ! aft m y) = o.take k ∧ o.dropWhile (fun y => ! aft m y) = o.drop k
 | [], _ => ⟨0, ⟨Nat.le_refl _, by simp, by simp⟩, rfl, rfl⟩
 | y :: r, h => by
  obtain ⟨hy, hr⟩ := List.pairwise_cons.1 h
  by_cases c : aft m y = true
  ·refine ⟨0, ⟨by simp, by simp, fun i _ hi => ?_⟩, by simp [c], by simp [c]⟩; show aft m (mvAt (y :: r) i) = true; rw [mvAt_get _ _ hi]; rw [aft_iff] at c ⊢
   cases i with
   | zero => exact c
   | succ i =>
    have := hy (r[i]'(by simpa using hi)) (List.getElem_mem _); simp only [List.getElem_cons_succ]
    unfold leM aftP at *
    omega
  ·obtain ⟨k, ⟨h1, h2, h3⟩, h4, h5⟩ := tw_at m r hr; have c' : aft m y = false := by simpa using c
   refine ⟨k + 1, ⟨by simpa using h1, fun i hi => ?_, fun i hi1 hi2 => ?_⟩, by simp [c', h4], by simp [c', h5]⟩
   ·cases i with
    | zero => exact c'
    | succ i =>
     have := h2 i (by omega)
     simpa [mvAt, rd_T23] using this
   ·cases i with
    | zero => omega
    | succ i =>
     have := h3 i (by omega) (by simpa using hi2)
     simpa [mvAt, rd_T23] using this
theorem mono_of {o : List Mv} (h : o.Pairwise leM) (m : Mv) : ∀ i j, i ≤ j → j < o.length → aft m (mvAt o i) = true → aft m (mvAt o j) = true := by
 intro i j hij hj hp
 rcases Nat.lt_or_ge i j with c | c
 ·rw [mvAt_get _ _ (by omega), aft_iff] at hp; rw [mvAt_get _ _ hj, aft_iff]; have := List.pairwise_iff_getElem.1 h i j (by omega) hj c
  unfold leM aftP at *
  omega
 ·obtain rfl : i = j := by omega
  exact hp
theorem insv_eq {o : List Mv} (h : o.Pairwise leM) (m : Mv) : insv m o m = insv' o m := by
 obtain ⟨k, h1, h2, h3⟩ := tw_at m o h; have e := (bsr_at _ _ (mono_of h m) o.length 0 o.length (by omega) (by omega) (by omega) (by intro i hi; omega) (by intro i hi hj; omega)).uniq h1
 unfold insv insv'
 rw [e, h2, h3]
theorem gtm_eq : (fun (m : Mv) (o : List Mv) i => gtm m (mvAt o i)) = fun m o i => aft m (mvAt o i) := by
 funext m o i
 rw [Bool.eq_iff_iff, gtm_iff, aft_iff]
theorem insr_eq {o : List Mv} (h : o.Pairwise leM) (m : Mv) : insr o m = insv' o m := by
 obtain ⟨k, h1, h2, h3⟩ := tw_at m o h; have hg : (fun i => gtm m (mvAt o i)) = fun i => aft m (mvAt o i) := congrFun (congrFun gtm_eq m) o; have e := (refpos_at _ _ (mono_of h m) o.length (by omega) (by intro i hi hj; omega)).uniq h1
 unfold insr insv'
 rw [hg, e, h2, h3]
theorem insv'_perm (o : List Mv) (m : Mv) : (insv' o m).Perm (m :: o) := by
 unfold insv'
 have := List.takeWhile_append_dropWhile (p := fun y => ! aft m y) (l := o); refine List.perm_middle.trans ?_; rw [this]
theorem insv'_sorted {o : List Mv} (h : o.Pairwise leM) (m : Mv) : (insv' o m).Pairwise leM := by
 obtain ⟨k, ⟨h1, h2, h3⟩, h4, h5⟩ := tw_at m o h
 unfold insv'
 rw [h4, h5]
 have ht : ∀ y ∈ o.take k, leM y m := by
  intro y hy; obtain ⟨i, hi, rfl⟩ := List.mem_iff_getElem.1 hy; have hi' : i < k := by simp at hi; omega
  have := h2 i hi'; rw [List.getElem_take]; have h9 : ¬ aft m (mvAt o i) = true := fun h => by have := this.symm.trans h; cases this
  rw [aft_iff, mvAt_get _ _ (by omega)] at h9; exact h9
 have hd : ∀ y ∈ o.drop k, leM m y := by
  intro y hy; obtain ⟨i, hi, rfl⟩ := List.mem_iff_getElem.1 hy; have hi' : k + i < o.length := by simp at hi; omega
  have := h3 (k + i) (by omega) hi'; rw [List.getElem_drop]; rw [aft_iff, mvAt_get _ _ hi'] at this; exact aft_leM this
 refine List.pairwise_append.2 ⟨h.sublist (List.take_sublist _ _), List.pairwise_cons.2 ⟨hd, h.sublist (List.drop_sublist _ _)⟩, ?_⟩; intro x hx y hy
 rcases List.mem_cons.1 hy with e | e
 ·rw [e]; exact ht x hx
 ·exact leM_trans (ht x hx) (hd y e)
def ordv (l : List Mv) : List Mv := l.foldl insv' []
theorem fold_both : ∀ (l o : List Mv), o.Pairwise leM → l.foldl (fun o m => insv m o m) o = l.foldl insv' o ∧ l.foldl insr o = l.foldl insv' o ∧ (l.foldl insv' o).Pairwise leM ∧ (l.foldl insv' o).Perm (o ++ l)
 | [], o, h => ⟨rfl, rfl, h, by simp⟩
 | m :: l, o, h => by
  obtain ⟨h1, h2, h3, h4⟩ := fold_both l (insv' o m) (insv'_sorted h m); simp only [List.foldl_cons, insv_eq h, insr_eq h]; refine ⟨h1, h2, h3, h4.trans ?_⟩; exact (List.Perm.append_right l (insv'_perm o m)).trans (List.perm_middle (a := m) (l₁ := o) (l₂ := l)).symm
theorem ordv_sorted (l : List Mv) : (ordv l).Pairwise leM := (fold_both l [] List.Pairwise.nil).2.2.1
theorem ordv_perm (l : List Mv) : (ordv l).Perm l := (fold_both l [] List.Pairwise.nil).2.2.2
theorem ordv_length (l : List Mv) : (ordv l).length = l.length := (ordv_perm l).length_eq
theorem F17.eq {l : List Mv} (h : l.length ≤ 1000000) : F17.f l = some (ordv l) := by
 unfold F17.f ordv
 rw [if_pos h, (fold_both l [] List.Pairwise.nil).1]
theorem F18.eq {l : List Mv} (h : l.length ≤ 1000000) : F18.f l = some (ordv l) := by
 unfold F18.f ordv
 rw [if_pos h, (fold_both l [] List.Pairwise.nil).2.1]
theorem F16.go (L : List Mv) (hs : L.length < 100000000000000) : ∀ (d : Nat) (i : Int), i + d = L.length → 0 ≤ i → Ev (fun k => F16.l0 k L L i) true
 | 0, i, h, h0 => by
  refine Ev.succ ?_; simp only [F16.l0, if_neg (show ¬ i < (L.length : Int) by omega)]; exact Ev.const _
 | d + 1, i, h, h0 => by
  refine Ev.succ ?_; simp only [F16.l0, if_pos (show i < (L.length : Int) by omega), if_pos h0, beq_self_eq_true, Bool.not_true, Bool.or_self, Bool.false_eq_true, if_false]; rw [w64 (n := i + 1) (by omega) (by omega)]; exact F16.go L hs d (i + 1) (by omega) (by omega)
theorem F16.self (L : List Mv) (hs : L.length < 100000000000000) : Ev (fun k => F16.f k L L) true := by
 unfold F16.f
 simp only [if_true]; exact F16.go L hs L.length 0 (by omega) (by omega)
end Go.Proofs.YtegpappenmhndaaDoor.M
end
section
namespace Go.Proofs.YtegpappenmhndaaDoor.M
open Go.RowKit Go.Proofs.YtegpappenmhndaaDoorW.PrintWords Go.Proofs.YtegpappenmhndaaDoorW.PrintLast
set_option linter.unusedVariables false
set_option linter.unusedSimpArgs false
def eqm (x y : MV) : Bool := x.f0 == y.f0 && (x.f1 == y.f1 && (x.f2.toList == y.f2.toList && (x.f3 == y.f3 && (x.f4 == y.f4 && (x.f5 == y.f5 && (x.f6.toList == y.f6.toList && (x.f7 == y.f7)))))))
def cnt (z : MV) (l : List MV) : Int := ((l.countP fun y => eqm y z : Nat) : Int)
theorem cnt_range (z : MV) (l : List MV) : 0 ≤ cnt z l ∧ cnt z l ≤ l.length := by
 unfold cnt
 have := List.countP_le_length (p := fun y => eqm y z) (l := l)
 omega
theorem cnt_snoc (z : MV) (l : List MV) (y : MV) : cnt z (l ++ [y]) = cnt z l + if eqm y z = true then 1 else 0 := by
 unfold cnt
 rw [List.countP_append]
 by_cases h : eqm y z = true <;> simp [h]
theorem F9.l1_go {l o : List MV} {i : Int} (hl : l.length ≤ 100000) (ho : o.length = l.length) (hi0 : 0 ≤ i) (hi1 : i < l.length)
  (hX : Ev (fun k => F9.l1 k l o i (cnt (rdv l i) l - cnt (rdv l i) o) (l.length : Int) months) true) : ∀ (d : Nat) (A A' B B' : List MV), A ++ B = l → A' ++ B' = o → A'.length = A.length → B.length = d →
   Ev (fun k => F9.l1 k l o i (cnt (rdv l i) A - cnt (rdv l i) A') (A.length : Int) months) true
 | 0, A, A', B, B', e1, e2, e3, e4 => by
  obtain rfl : B = [] := List.eq_nil_of_length_eq_zero e4; obtain rfl : A = l := by simpa using e1
  have hB : B' = [] := by
   apply List.eq_nil_of_length_eq_zero; have := congrArg List.length e2
   simp at this; omega
  subst hB; obtain rfl : A' = o := by simpa using e2
  exact hX
 | d + 1, A, A', [], B', e1, e2, e3, e4 => by simp at e4
 | d + 1, A, A', y :: B, [], e1, e2, e3, e4 => by
  have h1 := congrArg List.length e1; have h2 := congrArg List.length e2
  simp at h1 h2; omega
 | d + 1, A, A', y :: B, y' :: B', e1, e2, e3, e4 => by
  have hF : (l.length : Int) = (A.length : Int) + (B.length : Int) + 1 := by rw [← e1]; simp; omega
  have hy : rd_T23 l (A.length : Int) = y := by rw [← e1]; exact rdv_at A B y _ rfl
  have hy' : rd_T23 o (A.length : Int) = y' := by rw [← e2]; exact rdv_at A' B' y' _ (by rw [e3])
  have ih := F9.l1_go hl ho hi0 hi1 hX d (A ++ [y]) (A' ++ [y']) B B' (by simpa using e1) (by simpa using e2) (by simp [e3]) (by simpa using e4); rw [show ((A ++ [y]).length : Int) = (A.length : Int) + 1 by simp, cnt_snoc, cnt_snoc] at ih; have r1 := cnt_range (rdv l i) A; have r2 := cnt_range (rdv l i) A'; refine Ev.succ ?_; simp only [F9.l1, if_pos (show (A.length : Int) < (l.length : Int) by omega), if_pos (show (0 : Int) ≤ (A.length : Int) by omega), if_pos hi0, if_pos hi1, if_pos (show (A.length : Int) < (o.length : Int) by omega), hy, hy']; rw [w64 (n := (A.length : Int) + 1) (by omega) (by omega), w64 (n := cnt (rdv l i) A - cnt (rdv l i) A' + 1) (by omega) (by omega), w64 (n := cnt (rdv l i) A - cnt (rdv l i) A' - 1) (by omega) (by omega), w64 (n := cnt (rdv l i) A - cnt (rdv l i) A' + 1 - 1) (by omega) (by omega)]; show Ev (fun k => if eqm y (rdv l i) = true then (if eqm y' (rdv l i) = true then _ else _) else (if eqm y' (rdv l i) = true then _ else _)) true
  by_cases c : eqm y (rdv l i) = true
  ·simp only [if_pos c] at ih ⊢
   by_cases c' : eqm y' (rdv l i) = true
   ·simp only [if_pos c'] at ih ⊢; rw [show cnt (rdv l i) A - cnt (rdv l i) A' + 1 - 1 = cnt (rdv l i) A + 1 - (cnt (rdv l i) A' + 1) by omega]; exact ih
   ·simp only [if_neg c'] at ih ⊢; rw [show cnt (rdv l i) A - cnt (rdv l i) A' + 1 = cnt (rdv l i) A + 1 - (cnt (rdv l i) A' + 0) by omega]; exact ih
  ·simp only [if_neg c] at ih ⊢
   by_cases c' : eqm y' (rdv l i) = true
   ·simp only [if_pos c'] at ih ⊢; rw [show cnt (rdv l i) A - cnt (rdv l i) A' - 1 = cnt (rdv l i) A + 0 - (cnt (rdv l i) A' + 1) by omega]; exact ih
   ·simp only [if_neg c'] at ih ⊢; rw [show cnt (rdv l i) A - cnt (rdv l i) A' = cnt (rdv l i) A + 0 - (cnt (rdv l i) A' + 0) by omega]; exact ih
theorem sorted_at {o : List MV} (h : o.Pairwise leM) {i : Int} (h0 : 0 < i) (h1 : i < o.length) : ¬ (rdv o i).f1 < (rdv o (i - 1)).f1 ∧ ((rdv o i).f1 = (rdv o (i - 1)).f1 → ¬ (rdv o i).f0 < (rdv o (i - 1)).f0) := by
 obtain ⟨j, rfl⟩ : ∃ j : Nat, i = (j : Int) + 1 := ⟨(i - 1).toNat, by omega⟩; have hj : j + 1 < o.length := by omega
 have e1 : rdv o ((j : Int) + 1) = o[j + 1] := by
  rw [show (j : Int) + 1 = ((j + 1 : Nat) : Int) by omega]; simp [rdv, rd_T23, List.getD_eq_getElem?_getD, hj]
 have e0 : rdv o ((j : Int) + 1 - 1) = o[j] := by
  rw [show (j : Int) + 1 - 1 = (j : Int) by omega]; simp [rdv, rd_T23, List.getD_eq_getElem?_getD, show j < o.length by omega]
 rw [e1, e0]; have := List.pairwise_iff_getElem.1 h j (j + 1) (by omega) hj (by omega)
 unfold leM aftP at this
 omega
theorem rev_same {l : List MV} (h : ChkOk [] l) : ordv l.reverse = ordv l := by
 refine List.Perm.eq_of_pairwise (le := leM) (fun a b ha hb k1 k2 => ?_) (ordv_sorted _) (ordv_sorted _) (((ordv_perm _).trans (List.reverse_perm l)).trans (ordv_perm l).symm); have hf : a.f0 = b.f0 := by unfold leM aftP at k1 k2; omega
 have ha' : a ∈ l := List.mem_reverse.1 ((ordv_perm _).mem_iff.1 ha); have hb' : b ∈ l := (ordv_perm _).mem_iff.1 hb; obtain ⟨i, hi, rfl⟩ := List.mem_iff_getElem.1 ha'; obtain ⟨j, hj, rfl⟩ := List.mem_iff_getElem.1 hb'; rw [h.seq i hi, h.seq j hj] at hf; have : i = j := by omega
 subst this
 rfl
theorem F9.l2_go {l o : List MV} (hl : l.length ≤ 100000) {X : Bool} (hX : Ev (fun k => (F17.f l.reverse).bind fun t => (F16.f k t o).bind fun b => if b = true then (F11.f k months).bind fun c => some c else none) X) : ∀ (A B : List MV) , A ++ B = l →
   Ev (fun k => F9.l2 k l o B.reverse ((A.length : Int) - 1) months) X := by
 intro A; generalize hn : A.length = n
 induction n generalizing A with
 | zero =>
  intro B e; obtain rfl : A = [] := List.eq_nil_of_length_eq_zero hn; obtain rfl : B = l := by simpa using e
  refine Ev.succ ?_; simp only [F9.l2, if_neg (show ¬ (((0 : Nat) : Int) - 1 ≥ 0) by omega)]; exact hX
 | succ n ih =>
  intro B e
  obtain ⟨A0, y, rfl⟩ : ∃ A0 y, A = A0 ++ [y] := by
   have hne : A ≠ [] := by intro h; rw [h] at hn; simp at hn
   exact ⟨A.dropLast, A.getLast hne, (List.dropLast_concat_getLast hne).symm⟩
  have hA : A0.length = n := by simpa using hn
  have hF : l.length = n + 1 + B.length := by rw [← e]; simp; omega
  have hy : rd_T23 l (n : Int) = y := by
   rw [← e, show A0 ++ [y] ++ B = A0 ++ y :: B by simp]; exact rdv_at A0 B y _ (by rw [hA])
  have := ih A0 hA (y :: B) (by simpa using e); refine Ev.succ ?_; rw [show ((n + 1 : Nat) : Int) - 1 = (n : Int) by omega]; simp only [F9.l2, if_pos (show (n : Int) ≥ 0 by omega), if_pos (show (0 : Int) ≤ (n : Int) by omega), if_pos (show (n : Int) < (l.length : Int) by omega), if_pos (show B.reverse.length < 1759218604441 by simp; omega), hy]; rw [w64 (n := (n : Int) - 1) (by omega) (by omega)]
  simpa using this
theorem F9.l0_go {l : List MV} (hl : l.length ≤ 40) : ∀ (d : Nat) (i : Int), i + d = l.length → 0 ≤ i → Ev (fun k => F9.l0 k l (ordv l) i months) true
 | 0, i, h, h0 => by
  refine Ev.succ ?_; simp only [F9.l0, if_neg (show ¬ i < (l.length : Int) by omega)]; refine Ev.bind (F14.eq l) ?_
  by_cases c : (Checkv l).2 = 0
  rotate_left
  ·simp only [if_neg c]; exact Ev.bind F11.true (Ev.const _)
  simp only [if_pos c]; rw [w64 (n := (l.length : Int) - 1) (by omega) (by omega)]; refine F9.l2_go (by omega) ?_ l [] (by simp); simp only [F17.eq (l := l.reverse) (by simp; omega), Option.bind_some, rev_same ((Checkv_ok l).1 c).2]; refine Ev.bind (F16.self _ (by rw [ordv_length]; omega)) ?_; simp only [if_true]; exact Ev.bind F11.true (Ev.const _)
 | d + 1, i, h, h0 => by
  have ih := F9.l0_go hl d (i + 1) (by omega) (by omega); refine Ev.succ ?_; simp only [F9.l0, if_pos (show i < (l.length : Int) by omega)]; have ho := ordv_length l; refine F9.l1_go (by omega) ho h0 (by omega) ?_ l.length [] [] l (ordv l) rfl rfl rfl rfl
  have hc : cnt (rdv l i) l - cnt (rdv l i) (ordv l) = 0 := by
   unfold cnt
   rw [(ordv_perm l).countP_eq]; omega
  refine Ev.succ ?_; simp only [F9.l1, if_neg (show ¬ (l.length : Int) < (l.length : Int) by omega), hc, if_true]; rw [w64 (n := i + 1) (by omega) (by omega)]
  by_cases c : i > 0
  rotate_left
  ·simp only [if_neg c]; exact ih
  obtain ⟨s1, s2⟩ := sorted_at (ordv_sorted l) (i := i) c (by omega); rw [w64 (n := i - 1) (by omega) (by omega)]; simp only [if_pos c, if_pos h0, if_pos (show i < ((ordv l).length : Int) by omega), if_pos (show (0 : Int) ≤ i - 1 by omega), if_pos (show i - 1 < ((ordv l).length : Int) by omega), if_neg s1]
  by_cases e : (rdv (ordv l) i).f1 = (rdv (ordv l) (i - 1)).f1
  ·simp only [if_pos e, if_neg (s2 e)]; exact ih
  ·simp only [if_neg e]; exact ih
theorem pure_MovesSorted : F9.Pure := by
 intro l hl; refine Ev.out (g := fun k => F9.f k l months) ?_
 unfold F9.f
 obtain ⟨b, hb, hb2⟩ := F10.ok l; refine Ev.bind hb ?_
 cases b with
 | false => simp only [Bool.false_eq_true, if_false]; exact Ev.bind F11.true (Ev.const _)
 | true =>
  have h40 := hb2 rfl; simp only [if_true, F17.eq (l := l) (by omega), Option.bind_some, ordv_length]; exact F9.l0_go h40 l.length 0 (by omega) (by omega)
end Go.Proofs.YtegpappenmhndaaDoor.M
namespace Go.Proofs.YtegpappenmhndaaDoor.Pure
theorem MovesSorted : M.F9.Pure := M.pure_MovesSorted
end Go.Proofs.YtegpappenmhndaaDoor.Pure
end
section
namespace Go.Proofs.YtegpappenmhndaaDoor.M
open Go.ChangeShapes Go.WideShapes Go.ChangeAt Go.RowKit Go.Proofs.YtegpappenmhndaaDoorW.PrintWords Go.Proofs.YtegpappenmhndaaDoorW.PrintLast
abbrev laidL : List (String × DataW Unit) := [("accounting/days.lengths", Rows.laid_accounting_days_lengths)]
theorem gLen : Tryd.prog.globalNamed "accounting/days.lengths" = some 0 := by kernel_rfl
theorem tLen : (Tryd.prog.globals[0]?).map (·.type) = some 91 := by kernel_rfl
theorem cLen : Tryd.prog.cellsOf 91 = 12 := by kernel_rfl
theorem cInt : Tryd.prog.cellsOf 3 = 1 := by kernel_rfl
set_option maxRecDepth 100000 in
theorem tab_of_laid {W : World} (h : laidMetH Tryd.prog laidL W) : Tab W := by
 rw [MakeChecks.laidMetH_plain _ _ _ (by kernel_rfl)] at h; obtain ⟨ps, ⟨g0, t0, cs0, f0, p0, q0, hg0, ht0, hv0, hd0, _⟩, _⟩ := h; obtain rfl := Option.some.inj (gLen.symm.trans hg0); obtain rfl := Option.some.inj (tLen.symm.trans ht0); obtain ⟨xs, m1, rfl, hx1, hlen, hn3, hel⟩ := DataW.trod_array Tryd.underlying91 hd0
 have hxs : xs.map (·.1) = months.map (fun n => (DataW.lit (.int .i64 n) : DataW Unit)) := by
  have e := congrArg (fun y : DataW Unit × List MemPlace => y.1) hx1
  unfold Rows.laid_accounting_days_lengths at e
  injection e with e
  exact e.symm
 have each : ∀ i, i < 12 → cs0.toList[i]? = (months[i]?).map (Value.int .i64) := by
  intro i hi; have h1 := hel i hi; rw [cInt, Nat.mul_one] at h1; obtain ⟨x, hx⟩ : ∃ x, xs[i]? = some x := ⟨xs[i], List.getElem?_eq_getElem (by omega)⟩; rw [hx] at h1; obtain ⟨n, e1, e2, _⟩ := DataW.trod_int Tryd.underlying3 h1; have e3 := congrArg (fun l => l[i]?) hxs; simp only [List.getElem?_map, hx, Option.map_some, e2] at e3; have e4 := congrArg (fun l => l[0]?) e1; simp only [List.getElem?_take, List.getElem?_drop, Nat.add_zero, Nat.zero_lt_one, if_true, List.getElem?_cons_zero] at e4; rw [e4]
  cases hm : months[i]? with
  | none => rw [hm] at e3; cases e3
  | some m =>
   rw [hm] at e3; simp only [Option.map_some, Option.some.injEq, DataW.lit.injEq, Lit.int.injEq, true_and] at e3; rw [e3]
   rfl
 have hcs : cs0 = (months.map (Value.int .i64)).toArray := by
  rw [← Array.toList_inj]; apply List.ext_getElem?; intro i
  by_cases hi : i < 12
  ·rw [each i hi, List.getElem?_map]
  ·rw [List.getElem?_eq_none (by rw [hlen, cLen]; omega), List.getElem?_eq_none (by simp [months]; omega)]
 have hv := hv0; simp only [World.var?, gLen, Option.bind_some] at hv
 split at hv
 ·rename_i cs t fr hb
  obtain rfl := Option.some.inj hv; exact ⟨t, fr, by rw [hb, hcs]⟩
 ·cases hv
theorem door_met (os : Os) (args : Array Value) : laidMetH Tryd.prog laidL ((World.doorLaid Tryd.prog 400 os).forCall (fun _ _ => 0) ⟨#[], args, []⟩).memory :=
 laidMetH_of_parts3 (fuel := 8) (laidMet_of_run' 8 (by kernel_rfl) (by kernel_rfl)) (by kernel_rfl) (by kernel_rfl)
end Go.Proofs.YtegpappenmhndaaDoor.M
end
section
namespace Go.Proofs.YtegpappenmhndaaDoor.movesSorted
open Go.ChangeShapes Go.WideShapes Go.ChangeAt Go.RowKit Go.Proofs.YtegpappenmhndaaDoor.M Go.Proofs.YtegpappenmhndaaDoorW.PrintWords Go.Proofs.YtegpappenmhndaaDoorW.PrintLast
open Go.ChangeMaps (open_string shut_string)
set_option linter.unusedVariables false
theorem own : ownKnob Tryd.prog.godebug = none := by kernel_rfl
theorem laidOut : laidOutB Tryd.prog = true := by kernel_rfl
set_option maxRecDepth 100000 in
set_option maxHeartbeats 4000000 in
theorem lifted (os : Os) (started : os.Started) (H : Type) (enc : TypeId × Value → H) :
  ReturnsInHanded {} Tryd.checked os 9 .any (fun w args => (Rows.movesSortedSpec.pre enc Tryd.prog Tryd.f9 Rows.movesSortedRow.domain false w args ∧ laidMetH Tryd.prog Rows.movesSortedRow.laid w) ∧ sizedMet enc Tryd.prog Tryd.f9 (OpenSpec.ofChange Rows.movesSortedSpec) false w args) (Rows.movesSortedSpec.post enc Tryd.prog Tryd.f9 false true false false) := by
 refine returnsInHanded_of_change_and (C := Tryd.checked) (X := fun w _ => laidMetH Tryd.prog Rows.movesSortedRow.laid w) (fun _ _ _ hh h => h.of_heap hh) own started (by kernel_rfl) Tryd.func9
  (ChangeSpec.witness_shaped (enc := enc) (C := Tryd.checked) (os := os) (X := fun w _ => laidMetH Tryd.prog Rows.movesSortedRow.laid w) false (World.doorLaid Tryd.prog 400 os) #[.slice none 0 0] 8 rfl (World.shaped_of_RefB (by kernel_rfl) (by kernel_rfl)) (by kernel_rfl) (by kernel_rfl) (by kernel_rfl) (door_met os _)) ?_
 intro W base args ds gs before hval0 hW hcnd hsz0 hL _; have hsz : (DataW.weightsEach Tryd.prog (Tryd.f9.params.toList ++ Rows.movesSortedSpec.plain.varTypes Tryd.prog) (ds ++ gs)).all (· ≤ reachBytes) = true := hsz0; have hval : ∀ (j : Nat) t v, Tryd.f9.params[j]? = some t → args[j]? = some v → Value.okWide Tryd.prog W .any base t v := hval0; have hW' := hW; obtain ⟨p, q, hA0, hV, rfl, hfz, hnd⟩ := hW; have hA : DataW.TrodAll enc Tryd.prog W 0 (fun _ => true) true Tryd.f9.params.toList args.toList ds p := hA0; rw [Tryd.params9] at hA hval hsz; obtain ⟨v0, vs0, d0, ds0, p0, q0, hargs, rfl, rfl, h0, r0⟩ := trodAll_cons hA; obtain ⟨rfl, rfl, rfl⟩ := trodAll_nil r0; obtain rfl : args = #[v0] := by cases args; simp_all
 obtain ⟨rfl, rfl⟩ := trodVars_none hV; obtain ⟨a0, len0, cap0, rfl⟩ := okWide_slice Tryd.underlying25 (hval 0 25 v0 rfl rfl); have k0 := h0; have lt0 : ∀ x ∈ p0, x.block < W.heap.size := by obtain ⟨m, hm⟩ := k0; exact DataW.trod_lt m _ _ _ hm
 obtain ⟨x0, K0, g0⟩ : ∃ x_ : List (S23), (Kd.slice 23 k23).K W x_ [.slice a0 len0 cap0] ∧ (x_.length * 80 ≤ 140737488351232 ∧ ∀ y0_ ∈ x_, G23 y0_) := by obtain ⟨f, hf⟩ := h0; exact ((Opens.slice Tryd.underlying25 opens23 (by kernel_rfl) (b := 80) (by kernel_rfl))).get enc W 0 _ _ f _ _ hf (weights_at hsz (j := 0) (t := 25) rfl rfl)
 obtain ⟨A0, c0, e0, L0, C0⟩ := K0; injection e0 with e0 _
 injection e0 with e0a e0b e0c
 subst e0a e0b e0c; clear hA0 hval0 hsz0 hsz; obtain ⟨k, h⟩ := Pure.MovesSorted x0 g0; refine (M.F9.calls (k := k) (r := true) (w := W) (hr0 := C0) (hc0 := L0) (hr1 := kTab_of (tab_of_laid hL)) (hc1 := Nat.le_refl _) (h := h)).mono fun e W' ⟨he, bel0⟩ => ?_; have bel : Below W.heap.size W W' := by first | exact bel0 | exact bel0.below | (obtain ⟨nd, rfl⟩ := bel0; exact pw_below_drewN (Below.refl _ _) nd)
 subst he; exact ⟨_, rfl, _, _, _, [], _, [], hW', trodAll_mk1 (shut_bool Tryd.underlying4 _), (trodAll_cons_mk (Below.trod laidOut (by kernel_rfl) (of_decide_eq_true (by kernel_rfl)) k0 bel lt0) trodAll_mk0), rfl, bel.frame _, fun h => by cases h⟩
theorem over : Rows.movesSortedRow.holds Tryd.pinned (OpenSpec.ofChange Rows.movesSortedSpec) :=
 OpenClaim.holds_of_wide 9 Tryd.f9 rfl rfl rfl rfl rfl rfl rfl ⟨rfl, rfl, rfl, rfl, rfl⟩ rfl rfl rfl rfl rfl (by kernel_rfl) Tryd.func9 (by kernel_rfl)
  (of_decide_eq_true (by kernel_rfl)) (by unfold Func.isWrapper; first | (rw [if_pos (by decide +kernel)]; kernel_rfl) | (rw [if_neg (by decide +kernel)]; exact ⟨rfl, rfl⟩))
  (fun os started H enc _ => lifted os started H enc)
theorem proved : Rows.MovesSortedCardSaid :=
 Claim7.holds_tied_plain_at .later [] [.data] true (true, "98db53edb2efb439c9ec8dc62e8b94103ef33d00be49343a9acd4b193d3e4474") false
  over (fun _ h => by cases h) (by kernel_rfl) (fun _ h => by cases h) movesSorted_row_tie rfl ⟨rfl, rfl⟩ (by kernel_rfl) rfl
  (fun f fn hf hfn => by
   obtain rfl : f = 9 := Option.some.inj ((show Tryd.prog.funcNamed "accounting/accountinglaw33.MovesSorted" = some 9 by kernel_rfl).symm.trans hf) |>.symm; obtain rfl : fn = Tryd.f9 := (Option.some.inj (Tryd.func9.symm.trans hfn)).symm
   exact ⟨by kernel_rfl, fun j t ht => by
    rw [Tryd.params9] at ht; have hm : t ∈ [25] := by simpa using Array.mem_of_getElem? ht
    have hall : ([25].all fun u => !Tryd.prog.wantsStandIn u) = true := by kernel_rfl
    exact (show Tryd.prog.wantsStandIn t = false by simpa using List.all_eq_true.1 hall t hm)⟩)
  (by kernel_rfl)
#print axioms proved
end Go.Proofs.YtegpappenmhndaaDoor.movesSorted
namespace Go.Proofs.YtegpappenmhndaaDoor
theorem movesSorted_holds : Rows.MovesSortedCardSaid := movesSorted.proved
end Go.Proofs.YtegpappenmhndaaDoor
end
